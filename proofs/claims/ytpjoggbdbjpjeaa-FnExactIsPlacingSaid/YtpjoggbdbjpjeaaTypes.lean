/- Facts on the types of this seat, out of the loaded program. -/
import Derived.Test.YtpjoggbdbjpjeaaProg
import Derived.Test.YtpjoggbdbjpjeaaEng
import Derived.Laws.StructEq
namespace Go.Proofs.Ytpjoggbdbjpjeaa
open Go.RowKit
theorem mixedOrders : Try.prog.follows .mixedOrders = true := by kernel_rfl
theorem sz3 : (Try.prog.info? 3).map (·.size) = some 1 := by kernel_rfl
theorem ld3 {p : Addr} {v : Value} : ∀ w : World, w.cell? p = some v → (Instr.loadAt 3 (.pointer (some p))).run Try.prog w = .ok v w := run_loadAt_one Try.underlying3 rfl
theorem sz4 : (Try.prog.info? 4).map (·.size) = some 1 := by kernel_rfl
theorem ld4 {p : Addr} {v : Value} : ∀ w : World, w.cell? p = some v → (Instr.loadAt 4 (.pointer (some p))).run Try.prog w = .ok v w := run_loadAt_one Try.underlying4 rfl
theorem sz5 : (Try.prog.info? 5).map (·.size) = some 1 := by kernel_rfl
theorem ld5 {p : Addr} {v : Value} : ∀ w : World, w.cell? p = some v → (Instr.loadAt 5 (.pointer (some p))).run Try.prog w = .ok v w := run_loadAt_one Try.underlying5 rfl
theorem sz22 : (Try.prog.info? 22).map (·.size) = some 1 := by kernel_rfl
theorem ld22 {p : Addr} {v : Value} : ∀ w : World, w.cell? p = some v → (Instr.loadAt 22 (.pointer (some p))).run Try.prog w = .ok v w := run_loadAt_one Try.underlying22 rfl
theorem sz24 : (Try.prog.info? 24).map (·.size) = some 1 := by kernel_rfl
theorem ld24 {p : Addr} {v : Value} : ∀ w : World, w.cell? p = some v → (Instr.loadAt 24 (.pointer (some p))).run Try.prog w = .ok v w := run_loadAt_one Try.underlying24 rfl
theorem sz27 : (Try.prog.info? 27).map (·.size) = some 1 := by kernel_rfl
theorem ld27 {p : Addr} {v : Value} : ∀ w : World, w.cell? p = some v → (Instr.loadAt 27 (.pointer (some p))).run Try.prog w = .ok v w := run_loadAt_one Try.underlying27 rfl
theorem sz34 : (Try.prog.info? 34).map (·.size) = some 1 := by kernel_rfl
theorem ld34 {p : Addr} {v : Value} : ∀ w : World, w.cell? p = some v → (Instr.loadAt 34 (.pointer (some p))).run Try.prog w = .ok v w := run_loadAt_one Try.underlying34 rfl
theorem sz36 : (Try.prog.info? 36).map (·.size) = some 2 := by kernel_rfl
theorem zero36 : (Try.prog.info? 36).map (fun i => (i.zero.map (·.cells.size), i.size)) = some (some 2, 2) := by kernel_rfl
theorem ldv36 {b q : Nat} {cs : List Value} {w : World} (hl : cs.length = 2) (h : w.rangeAt b q cs) : (loadVar 36 ⟨b, q, none⟩).run Try.prog w = .ok (.agg cs.toArray) w := run_loadVar_mid w b q 36 cs _ h Try.underlying36 rfl (by rw [hl]; exact sz36)
theorem sz38 : (Try.prog.info? 38).map (·.size) = some 1 := by kernel_rfl
theorem ld38 {p : Addr} {v : Value} : ∀ w : World, w.cell? p = some v → (Instr.loadAt 38 (.pointer (some p))).run Try.prog w = .ok v w := run_loadAt_one Try.underlying38 rfl
theorem sz41 : (Try.prog.info? 41).map (·.size) = some 1 := by kernel_rfl
theorem ld41 {p : Addr} {v : Value} : ∀ w : World, w.cell? p = some v → (Instr.loadAt 41 (.pointer (some p))).run Try.prog w = .ok v w := run_loadAt_one Try.underlying41 rfl
theorem sz43 : (Try.prog.info? 43).map (·.size) = some 2 := by kernel_rfl
theorem zero43 : (Try.prog.info? 43).map (fun i => (i.zero.map (·.cells.size), i.size)) = some (some 2, 2) := by kernel_rfl
theorem ldv43 {b q : Nat} {cs : List Value} {w : World} (hl : cs.length = 2) (h : w.rangeAt b q cs) : (loadVar 43 ⟨b, q, none⟩).run Try.prog w = .ok (.agg cs.toArray) w := run_loadVar_mid w b q 43 cs _ h Try.underlying43 rfl (by rw [hl]; exact sz43)
theorem sz50 : (Try.prog.info? 50).map (·.size) = some 1 := by kernel_rfl
theorem ld50 {p : Addr} {v : Value} : ∀ w : World, w.cell? p = some v → (Instr.loadAt 50 (.pointer (some p))).run Try.prog w = .ok v w := run_loadAt_one Try.underlying50 rfl
theorem sz52 : (Try.prog.info? 52).map (·.size) = some 1 := by kernel_rfl
theorem ld52 {p : Addr} {v : Value} : ∀ w : World, w.cell? p = some v → (Instr.loadAt 52 (.pointer (some p))).run Try.prog w = .ok v w := run_loadAt_one Try.underlying52 rfl
theorem sz54 : (Try.prog.info? 54).map (·.size) = some 2 := by kernel_rfl
theorem zero54 : (Try.prog.info? 54).map (fun i => (i.zero.map (·.cells.size), i.size)) = some (some 2, 2) := by kernel_rfl
theorem ldv54 {b q : Nat} {cs : List Value} {w : World} (hl : cs.length = 2) (h : w.rangeAt b q cs) : (loadVar 54 ⟨b, q, none⟩).run Try.prog w = .ok (.agg cs.toArray) w := run_loadVar_mid w b q 54 cs _ h Try.underlying54 rfl (by rw [hl]; exact sz54)
theorem sz76 : (Try.prog.info? 76).map (·.size) = some 2 := by kernel_rfl
theorem zero76 : (Try.prog.info? 76).map (fun i => (i.zero.map (·.cells.size), i.size)) = some (some 2, 2) := by kernel_rfl
theorem ldv76 {b q : Nat} {cs : List Value} {w : World} (hl : cs.length = 2) (h : w.rangeAt b q cs) : (loadVar 76 ⟨b, q, none⟩).run Try.prog w = .ok (.agg cs.toArray) w := run_loadVar_mid w b q 76 cs _ h Try.underlying76 rfl (by rw [hl]; exact sz76)
theorem sz77 : (Try.prog.info? 77).map (·.size) = some 2 := by kernel_rfl
theorem zero77 : (Try.prog.info? 77).map (fun i => (i.zero.map (·.cells.size), i.size)) = some (some 2, 2) := by kernel_rfl
theorem ldv77 {b q : Nat} {cs : List Value} {w : World} (hl : cs.length = 2) (h : w.rangeAt b q cs) : (loadVar 77 ⟨b, q, none⟩).run Try.prog w = .ok (.agg cs.toArray) w := run_loadVar_mid w b q 77 cs _ h Try.underlying77 rfl (by rw [hl]; exact sz77)
theorem sz85 : (Try.prog.info? 85).map (·.size) = some 1 := by kernel_rfl
theorem ld85 {p : Addr} {v : Value} : ∀ w : World, w.cell? p = some v → (Instr.loadAt 85 (.pointer (some p))).run Try.prog w = .ok v w := run_loadAt_one Try.underlying85 rfl
theorem sz88 : (Try.prog.info? 88).map (·.size) = some 1 := by kernel_rfl
theorem ld88 {p : Addr} {v : Value} : ∀ w : World, w.cell? p = some v → (Instr.loadAt 88 (.pointer (some p))).run Try.prog w = .ok v w := run_loadAt_one Try.underlying88 rfl
theorem sz98 : (Try.prog.info? 98).map (·.size) = some 4 := by kernel_rfl
theorem zero98 : (Try.prog.info? 98).map (fun i => (i.zero.map (·.cells.size), i.size)) = some (some 4, 4) := by kernel_rfl
theorem ldv98 {b q : Nat} {cs : List Value} {w : World} (hl : cs.length = 4) (h : w.rangeAt b q cs) : (loadVar 98 ⟨b, q, none⟩).run Try.prog w = .ok (.agg cs.toArray) w := run_loadVar_mid w b q 98 cs _ h Try.underlying98 rfl (by rw [hl]; exact sz98)
theorem sz99 : (Try.prog.info? 99).map (·.size) = some 2 := by kernel_rfl
theorem zero99 : (Try.prog.info? 99).map (fun i => (i.zero.map (·.cells.size), i.size)) = some (some 2, 2) := by kernel_rfl
theorem ldv99 {b q : Nat} {cs : List Value} {w : World} (hl : cs.length = 2) (h : w.rangeAt b q cs) : (loadVar 99 ⟨b, q, none⟩).run Try.prog w = .ok (.agg cs.toArray) w := run_loadVar_mid w b q 99 cs _ h Try.underlying99 rfl (by rw [hl]; exact sz99)
theorem sz102 : (Try.prog.info? 102).map (·.size) = some 4 := by kernel_rfl
theorem zero102 : (Try.prog.info? 102).map (fun i => (i.zero.map (·.cells.size), i.size)) = some (some 4, 4) := by kernel_rfl
theorem ldv102 {b q : Nat} {cs : List Value} {w : World} (hl : cs.length = 4) (h : w.rangeAt b q cs) : (loadVar 102 ⟨b, q, none⟩).run Try.prog w = .ok (.agg cs.toArray) w := run_loadVar_mid w b q 102 cs _ h Try.underlying102 rfl (by rw [hl]; exact sz102)
theorem sz107 : (Try.prog.info? 107).map (·.size) = some 1 := by kernel_rfl
theorem ld107 {p : Addr} {v : Value} : ∀ w : World, w.cell? p = some v → (Instr.loadAt 107 (.pointer (some p))).run Try.prog w = .ok v w := run_loadAt_one Try.underlying107 rfl
theorem sz109 : (Try.prog.info? 109).map (·.size) = some 2 := by kernel_rfl
theorem zero109 : (Try.prog.info? 109).map (fun i => (i.zero.map (·.cells.size), i.size)) = some (some 2, 2) := by kernel_rfl
theorem ldv109 {b q : Nat} {cs : List Value} {w : World} (hl : cs.length = 2) (h : w.rangeAt b q cs) : (loadVar 109 ⟨b, q, none⟩).run Try.prog w = .ok (.agg cs.toArray) w := run_loadVar_mid w b q 109 cs _ h Try.underlying109 rfl (by rw [hl]; exact sz109)
theorem sz115 : (Try.prog.info? 115).map (·.size) = some 1 := by kernel_rfl
theorem ld115 {p : Addr} {v : Value} : ∀ w : World, w.cell? p = some v → (Instr.loadAt 115 (.pointer (some p))).run Try.prog w = .ok v w := run_loadAt_one Try.underlying115 rfl
theorem sz116 : (Try.prog.info? 116).map (·.size) = some 1 := by kernel_rfl
theorem ld116 {p : Addr} {v : Value} : ∀ w : World, w.cell? p = some v → (Instr.loadAt 116 (.pointer (some p))).run Try.prog w = .ok v w := run_loadAt_one Try.underlying116 rfl
theorem sz118 : (Try.prog.info? 118).map (·.size) = some 3 := by kernel_rfl
theorem zero118 : (Try.prog.info? 118).map (fun i => (i.zero.map (·.cells.size), i.size)) = some (some 3, 3) := by kernel_rfl
theorem ldv118 {b q : Nat} {cs : List Value} {w : World} (hl : cs.length = 3) (h : w.rangeAt b q cs) : (loadVar 118 ⟨b, q, none⟩).run Try.prog w = .ok (.agg cs.toArray) w := run_loadVar_mid w b q 118 cs _ h Try.underlying118 rfl (by rw [hl]; exact sz118)
theorem sz136 : (Try.prog.info? 136).map (·.size) = some 2 := by kernel_rfl
theorem zero136 : (Try.prog.info? 136).map (fun i => (i.zero.map (·.cells.size), i.size)) = some (some 2, 2) := by kernel_rfl
theorem ldv136 {b q : Nat} {cs : List Value} {w : World} (hl : cs.length = 2) (h : w.rangeAt b q cs) : (loadVar 136 ⟨b, q, none⟩).run Try.prog w = .ok (.agg cs.toArray) w := run_loadVar_mid w b q 136 cs _ h Try.underlying136 rfl (by rw [hl]; exact sz136)
theorem fld36_0 (b q : Nat) : ∀ w, (Instr.fieldAt 36 (.pointer (some ⟨b, q, none⟩)) 0).run Try.prog w = .ok (.pointer (some ⟨b, q + 0, none⟩)) w := run_fieldAt_of Try.underlying36 rfl rfl sz3
theorem fld36_1 (b q : Nat) : ∀ w, (Instr.fieldAt 36 (.pointer (some ⟨b, q, none⟩)) 1).run Try.prog w = .ok (.pointer (some ⟨b, q + 1, none⟩)) w := run_fieldAt_of Try.underlying36 rfl rfl sz3
theorem fld43_0 (b q : Nat) : ∀ w, (Instr.fieldAt 43 (.pointer (some ⟨b, q, none⟩)) 0).run Try.prog w = .ok (.pointer (some ⟨b, q + 0, none⟩)) w := run_fieldAt_of Try.underlying43 rfl rfl sz3
theorem fld43_1 (b q : Nat) : ∀ w, (Instr.fieldAt 43 (.pointer (some ⟨b, q, none⟩)) 1).run Try.prog w = .ok (.pointer (some ⟨b, q + 1, none⟩)) w := run_fieldAt_of Try.underlying43 rfl rfl sz3
theorem fld54_0 (b q : Nat) : ∀ w, (Instr.fieldAt 54 (.pointer (some ⟨b, q, none⟩)) 0).run Try.prog w = .ok (.pointer (some ⟨b, q + 0, none⟩)) w := run_fieldAt_of Try.underlying54 rfl rfl sz3
theorem fld54_1 (b q : Nat) : ∀ w, (Instr.fieldAt 54 (.pointer (some ⟨b, q, none⟩)) 1).run Try.prog w = .ok (.pointer (some ⟨b, q + 1, none⟩)) w := run_fieldAt_of Try.underlying54 rfl rfl sz52
theorem fld76_0 (b q : Nat) : ∀ w, (Instr.fieldAt 76 (.pointer (some ⟨b, q, none⟩)) 0).run Try.prog w = .ok (.pointer (some ⟨b, q + 0, none⟩)) w := run_fieldAt_of Try.underlying76 rfl rfl sz3
theorem fld76_1 (b q : Nat) : ∀ w, (Instr.fieldAt 76 (.pointer (some ⟨b, q, none⟩)) 1).run Try.prog w = .ok (.pointer (some ⟨b, q + 1, none⟩)) w := run_fieldAt_of Try.underlying76 rfl rfl sz3
theorem fld77_0 (b q : Nat) : ∀ w, (Instr.fieldAt 77 (.pointer (some ⟨b, q, none⟩)) 0).run Try.prog w = .ok (.pointer (some ⟨b, q + 0, none⟩)) w := run_fieldAt_of Try.underlying77 rfl rfl sz3
theorem fld77_1 (b q : Nat) : ∀ w, (Instr.fieldAt 77 (.pointer (some ⟨b, q, none⟩)) 1).run Try.prog w = .ok (.pointer (some ⟨b, q + 1, none⟩)) w := run_fieldAt_of Try.underlying77 rfl rfl sz3
theorem fld98_0 (b q : Nat) : ∀ w, (Instr.fieldAt 98 (.pointer (some ⟨b, q, none⟩)) 0).run Try.prog w = .ok (.pointer (some ⟨b, q + 0, none⟩)) w := run_fieldAt_of Try.underlying98 rfl rfl sz3
theorem fld98_1 (b q : Nat) : ∀ w, (Instr.fieldAt 98 (.pointer (some ⟨b, q, none⟩)) 1).run Try.prog w = .ok (.pointer (some ⟨b, q + 1, none⟩)) w := run_fieldAt_of Try.underlying98 rfl rfl sz3
theorem fld98_2 (b q : Nat) : ∀ w, (Instr.fieldAt 98 (.pointer (some ⟨b, q, none⟩)) 2).run Try.prog w = .ok (.pointer (some ⟨b, q + 2, none⟩)) w := run_fieldAt_of Try.underlying98 rfl rfl sz3
theorem fld98_3 (b q : Nat) : ∀ w, (Instr.fieldAt 98 (.pointer (some ⟨b, q, none⟩)) 3).run Try.prog w = .ok (.pointer (some ⟨b, q + 3, none⟩)) w := run_fieldAt_of Try.underlying98 rfl rfl sz3
theorem fld102_0 (b q : Nat) : ∀ w, (Instr.fieldAt 102 (.pointer (some ⟨b, q, none⟩)) 0).run Try.prog w = .ok (.pointer (some ⟨b, q + 0, none⟩)) w := run_fieldAt_of Try.underlying102 rfl rfl sz3
theorem fld102_1 (b q : Nat) : ∀ w, (Instr.fieldAt 102 (.pointer (some ⟨b, q, none⟩)) 1).run Try.prog w = .ok (.pointer (some ⟨b, q + 1, none⟩)) w := run_fieldAt_of Try.underlying102 rfl rfl sz3
theorem fld102_2 (b q : Nat) : ∀ w, (Instr.fieldAt 102 (.pointer (some ⟨b, q, none⟩)) 2).run Try.prog w = .ok (.pointer (some ⟨b, q + 2, none⟩)) w := run_fieldAt_of Try.underlying102 rfl rfl sz3
theorem fld102_3 (b q : Nat) : ∀ w, (Instr.fieldAt 102 (.pointer (some ⟨b, q, none⟩)) 3).run Try.prog w = .ok (.pointer (some ⟨b, q + 3, none⟩)) w := run_fieldAt_of Try.underlying102 rfl rfl sz3
theorem fld109_0 (b q : Nat) : ∀ w, (Instr.fieldAt 109 (.pointer (some ⟨b, q, none⟩)) 0).run Try.prog w = .ok (.pointer (some ⟨b, q + 0, none⟩)) w := run_fieldAt_of Try.underlying109 rfl rfl sz3
theorem fld109_1 (b q : Nat) : ∀ w, (Instr.fieldAt 109 (.pointer (some ⟨b, q, none⟩)) 1).run Try.prog w = .ok (.pointer (some ⟨b, q + 1, none⟩)) w := run_fieldAt_of Try.underlying109 rfl rfl sz107
theorem fld118_0 (b q : Nat) : ∀ w, (Instr.fieldAt 118 (.pointer (some ⟨b, q, none⟩)) 0).run Try.prog w = .ok (.pointer (some ⟨b, q + 0, none⟩)) w := run_fieldAt_of Try.underlying118 rfl rfl sz50
theorem fld118_1 (b q : Nat) : ∀ w, (Instr.fieldAt 118 (.pointer (some ⟨b, q, none⟩)) 1).run Try.prog w = .ok (.pointer (some ⟨b, q + 1, none⟩)) w := run_fieldAt_of Try.underlying118 rfl rfl sz3
theorem fld118_2 (b q : Nat) : ∀ w, (Instr.fieldAt 118 (.pointer (some ⟨b, q, none⟩)) 2).run Try.prog w = .ok (.pointer (some ⟨b, q + 2, none⟩)) w := run_fieldAt_of Try.underlying118 rfl rfl sz116
theorem fld136_0 (b q : Nat) : ∀ w, (Instr.fieldAt 136 (.pointer (some ⟨b, q, none⟩)) 0).run Try.prog w = .ok (.pointer (some ⟨b, q + 0, none⟩)) w := run_fieldAt_of Try.underlying136 rfl rfl sz3
theorem fld136_1 (b q : Nat) : ∀ w, (Instr.fieldAt 136 (.pointer (some ⟨b, q, none⟩)) 1).run Try.prog w = .ok (.pointer (some ⟨b, q + 1, none⟩)) w := run_fieldAt_of Try.underlying136 rfl rfl sz3
theorem eqr43 (x y : Operand) (a0 a1 b0 b1 : Int) (w : World) : (do eqGuard .eql 43 x y (.agg ([.int .i64 a0, .int .i64 a1] : List Value).toArray) (.agg ([.int .i64 b0, .int .i64 b1] : List Value).toArray); binOp .eql 43 (.agg ([.int .i64 a0, .int .i64 a1] : List Value).toArray) (.agg ([.int .i64 b0, .int .i64 b1] : List Value).toArray) : Sem Value).run Try.prog w = .ok (.bool ((a0 == b0) && (a1 == b1))) w := by
  have u3 := Try.underlying3
  have a3 := Try.isAgg3
  have z3 := Try.sizeOf3
  have hS : Try.prog.underlying 43 = some (.struct (Try.prog.fieldsOf 43)) := by kernel_rfl
  have hp : Try.prog.stoodInHeld 43 = false := by kernel_rfl
  have hm : Try.prog.eqGuardType Try.prog.depth 43 = false := by kernel_rfl
  rw [Sem.run_bind, run_eqGuard_agg _ _ _ _ _ _ _ hm, Result.andThen_ok, run_eql_struct, show (10000 : Nat) = 9999 + 1 from rfl, run_equalIn_agg w 9999 43 _ _ hS hp]
  simp only [Program.fieldsOf, Try.underlying43]
  go_simp
  by_cases h0 : a0 = b0 <;> by_cases h1 : a1 = b1 <;> simp [h0, h1]
theorem ner43 (x y : Operand) (a0 a1 b0 b1 : Int) (w : World) : (do eqGuard .neq 43 x y (.agg ([.int .i64 a0, .int .i64 a1] : List Value).toArray) (.agg ([.int .i64 b0, .int .i64 b1] : List Value).toArray); binOp .neq 43 (.agg ([.int .i64 a0, .int .i64 a1] : List Value).toArray) (.agg ([.int .i64 b0, .int .i64 b1] : List Value).toArray) : Sem Value).run Try.prog w = .ok (.bool (!((a0 == b0) && (a1 == b1)))) w := by
  have u3 := Try.underlying3
  have a3 := Try.isAgg3
  have z3 := Try.sizeOf3
  have hS : Try.prog.underlying 43 = some (.struct (Try.prog.fieldsOf 43)) := by kernel_rfl
  have hp : Try.prog.stoodInHeld 43 = false := by kernel_rfl
  have hm : Try.prog.eqGuardType Try.prog.depth 43 = false := by kernel_rfl
  rw [Sem.run_bind, run_eqGuard_agg _ _ _ _ _ _ _ hm, Result.andThen_ok, run_neq_struct, show (10000 : Nat) = 9999 + 1 from rfl, run_equalIn_agg w 9999 43 _ _ hS hp]
  simp only [Program.fieldsOf, Try.underlying43]
  go_simp
  by_cases h0 : a0 = b0 <;> by_cases h1 : a1 = b1 <;> simp [h0, h1]
theorem eqr77 (x y : Operand) (a0 a1 b0 b1 : Int) (w : World) : (do eqGuard .eql 77 x y (.agg ([.int .i64 a0, .int .i64 a1] : List Value).toArray) (.agg ([.int .i64 b0, .int .i64 b1] : List Value).toArray); binOp .eql 77 (.agg ([.int .i64 a0, .int .i64 a1] : List Value).toArray) (.agg ([.int .i64 b0, .int .i64 b1] : List Value).toArray) : Sem Value).run Try.prog w = .ok (.bool ((a0 == b0) && (a1 == b1))) w := by
  have u3 := Try.underlying3
  have a3 := Try.isAgg3
  have z3 := Try.sizeOf3
  have hS : Try.prog.underlying 77 = some (.struct (Try.prog.fieldsOf 77)) := by kernel_rfl
  have hp : Try.prog.stoodInHeld 77 = false := by kernel_rfl
  have hm : Try.prog.eqGuardType Try.prog.depth 77 = false := by kernel_rfl
  rw [Sem.run_bind, run_eqGuard_agg _ _ _ _ _ _ _ hm, Result.andThen_ok, run_eql_struct, show (10000 : Nat) = 9999 + 1 from rfl, run_equalIn_agg w 9999 77 _ _ hS hp]
  simp only [Program.fieldsOf, Try.underlying77]
  go_simp
  by_cases h0 : a0 = b0 <;> by_cases h1 : a1 = b1 <;> simp [h0, h1]
theorem ner77 (x y : Operand) (a0 a1 b0 b1 : Int) (w : World) : (do eqGuard .neq 77 x y (.agg ([.int .i64 a0, .int .i64 a1] : List Value).toArray) (.agg ([.int .i64 b0, .int .i64 b1] : List Value).toArray); binOp .neq 77 (.agg ([.int .i64 a0, .int .i64 a1] : List Value).toArray) (.agg ([.int .i64 b0, .int .i64 b1] : List Value).toArray) : Sem Value).run Try.prog w = .ok (.bool (!((a0 == b0) && (a1 == b1)))) w := by
  have u3 := Try.underlying3
  have a3 := Try.isAgg3
  have z3 := Try.sizeOf3
  have hS : Try.prog.underlying 77 = some (.struct (Try.prog.fieldsOf 77)) := by kernel_rfl
  have hp : Try.prog.stoodInHeld 77 = false := by kernel_rfl
  have hm : Try.prog.eqGuardType Try.prog.depth 77 = false := by kernel_rfl
  rw [Sem.run_bind, run_eqGuard_agg _ _ _ _ _ _ _ hm, Result.andThen_ok, run_neq_struct, show (10000 : Nat) = 9999 + 1 from rfl, run_equalIn_agg w 9999 77 _ _ hS hp]
  simp only [Program.fieldsOf, Try.underlying77]
  go_simp
  by_cases h0 : a0 = b0 <;> by_cases h1 : a1 = b1 <;> simp [h0, h1]
end Go.Proofs.Ytpjoggbdbjpjeaa
