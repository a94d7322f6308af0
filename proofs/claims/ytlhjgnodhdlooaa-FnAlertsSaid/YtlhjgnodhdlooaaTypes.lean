/- Facts on the types of this seat, out of the loaded program. -/
import Derived.Test.YtlhjgnodhdlooaaProg
import Derived.Test.YtlhjgnodhdlooaaEng
import Derived.Laws.StructEq
namespace Go.Proofs.Ytlhjgnodhdlooaa
open Go.RowKit
theorem mixedOrders : Try.prog.follows .mixedOrders = true := by kernel_rfl
theorem sz3 : (Try.prog.info? 3).map (·.size) = some 1 := by kernel_rfl
theorem ld3 {p : Addr} {v : Value} : ∀ w : World, w.cell? p = some v → (Instr.loadAt 3 (.pointer (some p))).run Try.prog w = .ok v w := run_loadAt_one Try.underlying3 rfl
theorem sz4 : (Try.prog.info? 4).map (·.size) = some 1 := by kernel_rfl
theorem ld4 {p : Addr} {v : Value} : ∀ w : World, w.cell? p = some v → (Instr.loadAt 4 (.pointer (some p))).run Try.prog w = .ok v w := run_loadAt_one Try.underlying4 rfl
theorem sz5 : (Try.prog.info? 5).map (·.size) = some 1 := by kernel_rfl
theorem ld5 {p : Addr} {v : Value} : ∀ w : World, w.cell? p = some v → (Instr.loadAt 5 (.pointer (some p))).run Try.prog w = .ok v w := run_loadAt_one Try.underlying5 rfl
theorem sz9 : (Try.prog.info? 9).map (·.size) = some 1 := by kernel_rfl
theorem ld9 {p : Addr} {v : Value} : ∀ w : World, w.cell? p = some v → (Instr.loadAt 9 (.pointer (some p))).run Try.prog w = .ok v w := run_loadAt_one Try.underlying9 rfl
theorem sz23 : (Try.prog.info? 23).map (·.size) = some 5 := by kernel_rfl
theorem zero23 : (Try.prog.info? 23).map (fun i => (i.zero.map (·.cells.size), i.size)) = some (some 5, 5) := by kernel_rfl
theorem ldv23 {b q : Nat} {cs : List Value} {w : World} (hl : cs.length = 5) (h : w.rangeAt b q cs) : (loadVar 23 ⟨b, q, none⟩).run Try.prog w = .ok (.agg cs.toArray) w := run_loadVar_mid w b q 23 cs _ h Try.underlying23 rfl (by rw [hl]; exact sz23)
theorem sz26 : (Try.prog.info? 26).map (·.size) = some 5 := by kernel_rfl
theorem zero26 : (Try.prog.info? 26).map (fun i => (i.zero.map (·.cells.size), i.size)) = some (some 5, 5) := by kernel_rfl
theorem ldv26 {b q : Nat} {cs : List Value} {w : World} (hl : cs.length = 5) (h : w.rangeAt b q cs) : (loadVar 26 ⟨b, q, none⟩).run Try.prog w = .ok (.agg cs.toArray) w := run_loadVar_mid w b q 26 cs _ h Try.underlying26 rfl (by rw [hl]; exact sz26)
theorem sz29 : (Try.prog.info? 29).map (·.size) = some 1 := by kernel_rfl
theorem ld29 {p : Addr} {v : Value} : ∀ w : World, w.cell? p = some v → (Instr.loadAt 29 (.pointer (some p))).run Try.prog w = .ok v w := run_loadAt_one Try.underlying29 rfl
theorem sz32 : (Try.prog.info? 32).map (·.size) = some 1 := by kernel_rfl
theorem ld32 {p : Addr} {v : Value} : ∀ w : World, w.cell? p = some v → (Instr.loadAt 32 (.pointer (some p))).run Try.prog w = .ok v w := run_loadAt_one Try.underlying32 rfl
theorem sz40 : (Try.prog.info? 40).map (·.size) = some 4 := by kernel_rfl
theorem zero40 : (Try.prog.info? 40).map (fun i => (i.zero.map (·.cells.size), i.size)) = some (some 4, 4) := by kernel_rfl
theorem ldv40 {b q : Nat} {cs : List Value} {w : World} (hl : cs.length = 4) (h : w.rangeAt b q cs) : (loadVar 40 ⟨b, q, none⟩).run Try.prog w = .ok (.agg cs.toArray) w := run_loadVar_mid w b q 40 cs _ h Try.underlying40 rfl (by rw [hl]; exact sz40)
theorem sz42 : (Try.prog.info? 42).map (·.size) = some 4 := by kernel_rfl
theorem zero42 : (Try.prog.info? 42).map (fun i => (i.zero.map (·.cells.size), i.size)) = some (some 4, 4) := by kernel_rfl
theorem ldv42 {b q : Nat} {cs : List Value} {w : World} (hl : cs.length = 4) (h : w.rangeAt b q cs) : (loadVar 42 ⟨b, q, none⟩).run Try.prog w = .ok (.agg cs.toArray) w := run_loadVar_mid w b q 42 cs _ h Try.underlying42 rfl (by rw [hl]; exact sz42)
theorem sz52 : (Try.prog.info? 52).map (·.size) = some 1 := by kernel_rfl
theorem ld52 {p : Addr} {v : Value} : ∀ w : World, w.cell? p = some v → (Instr.loadAt 52 (.pointer (some p))).run Try.prog w = .ok v w := run_loadAt_one Try.underlying52 rfl
theorem sz59 : (Try.prog.info? 59).map (·.size) = some 1 := by kernel_rfl
theorem ld59 {p : Addr} {v : Value} : ∀ w : World, w.cell? p = some v → (Instr.loadAt 59 (.pointer (some p))).run Try.prog w = .ok v w := run_loadAt_one Try.underlying59 rfl
theorem sz65 : (Try.prog.info? 65).map (·.size) = some 2 := by kernel_rfl
theorem zero65 : (Try.prog.info? 65).map (fun i => (i.zero.map (·.cells.size), i.size)) = some (some 2, 2) := by kernel_rfl
theorem ldv65 {b q : Nat} {cs : List Value} {w : World} (hl : cs.length = 2) (h : w.rangeAt b q cs) : (loadVar 65 ⟨b, q, none⟩).run Try.prog w = .ok (.agg cs.toArray) w := run_loadVar_mid w b q 65 cs _ h Try.underlying65 rfl (by rw [hl]; exact sz65)
theorem sz76 : (Try.prog.info? 76).map (·.size) = some 1 := by kernel_rfl
theorem ld76 {p : Addr} {v : Value} : ∀ w : World, w.cell? p = some v → (Instr.loadAt 76 (.pointer (some p))).run Try.prog w = .ok v w := run_loadAt_one Try.underlying76 rfl
theorem sz80 : (Try.prog.info? 80).map (·.size) = some 1 := by kernel_rfl
theorem ld80 {p : Addr} {v : Value} : ∀ w : World, w.cell? p = some v → (Instr.loadAt 80 (.pointer (some p))).run Try.prog w = .ok v w := run_loadAt_one Try.underlying80 rfl
theorem sz88 : (Try.prog.info? 88).map (·.size) = some 1 := by kernel_rfl
theorem ld88 {p : Addr} {v : Value} : ∀ w : World, w.cell? p = some v → (Instr.loadAt 88 (.pointer (some p))).run Try.prog w = .ok v w := run_loadAt_one Try.underlying88 rfl
theorem sz89 : (Try.prog.info? 89).map (·.size) = some 1 := by kernel_rfl
theorem ld89 {p : Addr} {v : Value} : ∀ w : World, w.cell? p = some v → (Instr.loadAt 89 (.pointer (some p))).run Try.prog w = .ok v w := run_loadAt_one Try.underlying89 rfl
theorem sz91 : (Try.prog.info? 91).map (·.size) = some 3 := by kernel_rfl
theorem zero91 : (Try.prog.info? 91).map (fun i => (i.zero.map (·.cells.size), i.size)) = some (some 3, 3) := by kernel_rfl
theorem ldv91 {b q : Nat} {cs : List Value} {w : World} (hl : cs.length = 3) (h : w.rangeAt b q cs) : (loadVar 91 ⟨b, q, none⟩).run Try.prog w = .ok (.agg cs.toArray) w := run_loadVar_mid w b q 91 cs _ h Try.underlying91 rfl (by rw [hl]; exact sz91)
theorem sz102 : (Try.prog.info? 102).map (·.size) = some 2 := by kernel_rfl
theorem zero102 : (Try.prog.info? 102).map (fun i => (i.zero.map (·.cells.size), i.size)) = some (some 2, 2) := by kernel_rfl
theorem ldv102 {b q : Nat} {cs : List Value} {w : World} (hl : cs.length = 2) (h : w.rangeAt b q cs) : (loadVar 102 ⟨b, q, none⟩).run Try.prog w = .ok (.agg cs.toArray) w := run_loadVar_mid w b q 102 cs _ h Try.underlying102 rfl (by rw [hl]; exact sz102)
theorem sz105 : (Try.prog.info? 105).map (·.size) = some 2 := by kernel_rfl
theorem zero105 : (Try.prog.info? 105).map (fun i => (i.zero.map (·.cells.size), i.size)) = some (some 2, 2) := by kernel_rfl
theorem ldv105 {b q : Nat} {cs : List Value} {w : World} (hl : cs.length = 2) (h : w.rangeAt b q cs) : (loadVar 105 ⟨b, q, none⟩).run Try.prog w = .ok (.agg cs.toArray) w := run_loadVar_mid w b q 105 cs _ h Try.underlying105 rfl (by rw [hl]; exact sz105)
theorem fld23_0 (b q : Nat) : ∀ w, (Instr.fieldAt 23 (.pointer (some ⟨b, q, none⟩)) 0).run Try.prog w = .ok (.pointer (some ⟨b, q + 0, none⟩)) w := run_fieldAt_of Try.underlying23 rfl rfl sz3
theorem fld23_1 (b q : Nat) : ∀ w, (Instr.fieldAt 23 (.pointer (some ⟨b, q, none⟩)) 1).run Try.prog w = .ok (.pointer (some ⟨b, q + 1, none⟩)) w := run_fieldAt_of Try.underlying23 rfl rfl sz3
theorem fld23_2 (b q : Nat) : ∀ w, (Instr.fieldAt 23 (.pointer (some ⟨b, q, none⟩)) 2).run Try.prog w = .ok (.pointer (some ⟨b, q + 2, none⟩)) w := run_fieldAt_of Try.underlying23 rfl rfl sz3
theorem fld23_3 (b q : Nat) : ∀ w, (Instr.fieldAt 23 (.pointer (some ⟨b, q, none⟩)) 3).run Try.prog w = .ok (.pointer (some ⟨b, q + 3, none⟩)) w := run_fieldAt_of Try.underlying23 rfl rfl sz3
theorem fld23_4 (b q : Nat) : ∀ w, (Instr.fieldAt 23 (.pointer (some ⟨b, q, none⟩)) 4).run Try.prog w = .ok (.pointer (some ⟨b, q + 4, none⟩)) w := run_fieldAt_of Try.underlying23 rfl rfl sz4
theorem fld26_0 (b q : Nat) : ∀ w, (Instr.fieldAt 26 (.pointer (some ⟨b, q, none⟩)) 0).run Try.prog w = .ok (.pointer (some ⟨b, q + 0, none⟩)) w := run_fieldAt_of Try.underlying26 rfl rfl sz3
theorem fld26_1 (b q : Nat) : ∀ w, (Instr.fieldAt 26 (.pointer (some ⟨b, q, none⟩)) 1).run Try.prog w = .ok (.pointer (some ⟨b, q + 1, none⟩)) w := run_fieldAt_of Try.underlying26 rfl rfl sz3
theorem fld26_2 (b q : Nat) : ∀ w, (Instr.fieldAt 26 (.pointer (some ⟨b, q, none⟩)) 2).run Try.prog w = .ok (.pointer (some ⟨b, q + 2, none⟩)) w := run_fieldAt_of Try.underlying26 rfl rfl sz3
theorem fld26_3 (b q : Nat) : ∀ w, (Instr.fieldAt 26 (.pointer (some ⟨b, q, none⟩)) 3).run Try.prog w = .ok (.pointer (some ⟨b, q + 3, none⟩)) w := run_fieldAt_of Try.underlying26 rfl rfl sz3
theorem fld26_4 (b q : Nat) : ∀ w, (Instr.fieldAt 26 (.pointer (some ⟨b, q, none⟩)) 4).run Try.prog w = .ok (.pointer (some ⟨b, q + 4, none⟩)) w := run_fieldAt_of Try.underlying26 rfl rfl sz4
theorem fld40_0 (b q : Nat) : ∀ w, (Instr.fieldAt 40 (.pointer (some ⟨b, q, none⟩)) 0).run Try.prog w = .ok (.pointer (some ⟨b, q + 0, none⟩)) w := run_fieldAt_of Try.underlying40 rfl rfl sz3
theorem fld40_1 (b q : Nat) : ∀ w, (Instr.fieldAt 40 (.pointer (some ⟨b, q, none⟩)) 1).run Try.prog w = .ok (.pointer (some ⟨b, q + 1, none⟩)) w := run_fieldAt_of Try.underlying40 rfl rfl sz3
theorem fld40_2 (b q : Nat) : ∀ w, (Instr.fieldAt 40 (.pointer (some ⟨b, q, none⟩)) 2).run Try.prog w = .ok (.pointer (some ⟨b, q + 2, none⟩)) w := run_fieldAt_of Try.underlying40 rfl rfl sz3
theorem fld40_3 (b q : Nat) : ∀ w, (Instr.fieldAt 40 (.pointer (some ⟨b, q, none⟩)) 3).run Try.prog w = .ok (.pointer (some ⟨b, q + 3, none⟩)) w := run_fieldAt_of Try.underlying40 rfl rfl sz3
theorem fld42_0 (b q : Nat) : ∀ w, (Instr.fieldAt 42 (.pointer (some ⟨b, q, none⟩)) 0).run Try.prog w = .ok (.pointer (some ⟨b, q + 0, none⟩)) w := run_fieldAt_of Try.underlying42 rfl rfl sz3
theorem fld42_1 (b q : Nat) : ∀ w, (Instr.fieldAt 42 (.pointer (some ⟨b, q, none⟩)) 1).run Try.prog w = .ok (.pointer (some ⟨b, q + 1, none⟩)) w := run_fieldAt_of Try.underlying42 rfl rfl sz3
theorem fld42_2 (b q : Nat) : ∀ w, (Instr.fieldAt 42 (.pointer (some ⟨b, q, none⟩)) 2).run Try.prog w = .ok (.pointer (some ⟨b, q + 2, none⟩)) w := run_fieldAt_of Try.underlying42 rfl rfl sz3
theorem fld42_3 (b q : Nat) : ∀ w, (Instr.fieldAt 42 (.pointer (some ⟨b, q, none⟩)) 3).run Try.prog w = .ok (.pointer (some ⟨b, q + 3, none⟩)) w := run_fieldAt_of Try.underlying42 rfl rfl sz3
theorem fld91_0 (b q : Nat) : ∀ w, (Instr.fieldAt 91 (.pointer (some ⟨b, q, none⟩)) 0).run Try.prog w = .ok (.pointer (some ⟨b, q + 0, none⟩)) w := run_fieldAt_of Try.underlying91 rfl rfl sz59
theorem fld91_1 (b q : Nat) : ∀ w, (Instr.fieldAt 91 (.pointer (some ⟨b, q, none⟩)) 1).run Try.prog w = .ok (.pointer (some ⟨b, q + 1, none⟩)) w := run_fieldAt_of Try.underlying91 rfl rfl sz3
theorem fld91_2 (b q : Nat) : ∀ w, (Instr.fieldAt 91 (.pointer (some ⟨b, q, none⟩)) 2).run Try.prog w = .ok (.pointer (some ⟨b, q + 2, none⟩)) w := run_fieldAt_of Try.underlying91 rfl rfl sz89
theorem fld102_0 (b q : Nat) : ∀ w, (Instr.fieldAt 102 (.pointer (some ⟨b, q, none⟩)) 0).run Try.prog w = .ok (.pointer (some ⟨b, q + 0, none⟩)) w := run_fieldAt_of Try.underlying102 rfl rfl sz3
theorem fld102_1 (b q : Nat) : ∀ w, (Instr.fieldAt 102 (.pointer (some ⟨b, q, none⟩)) 1).run Try.prog w = .ok (.pointer (some ⟨b, q + 1, none⟩)) w := run_fieldAt_of Try.underlying102 rfl rfl sz3
theorem fld105_0 (b q : Nat) : ∀ w, (Instr.fieldAt 105 (.pointer (some ⟨b, q, none⟩)) 0).run Try.prog w = .ok (.pointer (some ⟨b, q + 0, none⟩)) w := run_fieldAt_of Try.underlying105 rfl rfl sz3
theorem fld105_1 (b q : Nat) : ∀ w, (Instr.fieldAt 105 (.pointer (some ⟨b, q, none⟩)) 1).run Try.prog w = .ok (.pointer (some ⟨b, q + 1, none⟩)) w := run_fieldAt_of Try.underlying105 rfl rfl sz3
theorem eqr26 (x y : Operand) (a0 : Int) (a1 : Int) (a2 : Int) (a3 : Int) (a4 : Bool) (b0 : Int) (b1 : Int) (b2 : Int) (b3 : Int) (b4 : Bool) (w : World) : (do eqGuard .eql 26 x y (.agg ([.int .i64 a0, .int .i64 a1, .int .i64 a2, .int .i64 a3, .bool a4] : List Value).toArray) (.agg ([.int .i64 b0, .int .i64 b1, .int .i64 b2, .int .i64 b3, .bool b4] : List Value).toArray); binOp .eql 26 (.agg ([.int .i64 a0, .int .i64 a1, .int .i64 a2, .int .i64 a3, .bool a4] : List Value).toArray) (.agg ([.int .i64 b0, .int .i64 b1, .int .i64 b2, .int .i64 b3, .bool b4] : List Value).toArray) : Sem Value).run Try.prog w = .ok (.bool (((((a0 == b0) && (a1 == b1)) && (a2 == b2)) && (a3 == b3)) && (a4 == b4))) w := by
  have iu3 := Try.underlying3
  have ia3 := Try.isAgg3
  have iz3 := Try.sizeOf3
  have iu4 := Try.underlying4
  have ia4 := Try.isAgg4
  have iz4 := Try.sizeOf4
  have hS : Try.prog.underlying 26 = some (.struct (Try.prog.fieldsOf 26)) := by kernel_rfl
  have hp : Try.prog.stoodInHeld 26 = false := by kernel_rfl
  have hm : Try.prog.eqGuardType Try.prog.depth 26 = false := by kernel_rfl
  rw [Sem.run_bind, run_eqGuard_agg _ _ _ _ _ _ _ hm, Result.andThen_ok, run_eql_struct, show (10000 : Nat) = 9999 + 1 from rfl, run_equalIn_agg w 9999 26 _ _ hS hp]
  simp only [Program.fieldsOf, Try.underlying26]
  go_simp
  by_cases h0 : a0 = b0 <;> by_cases h1 : a1 = b1 <;> by_cases h2 : a2 = b2 <;> by_cases h3 : a3 = b3 <;> by_cases h4 : a4 = b4 <;> simp [h0, h1, h2, h3, h4]
theorem ner26 (x y : Operand) (a0 : Int) (a1 : Int) (a2 : Int) (a3 : Int) (a4 : Bool) (b0 : Int) (b1 : Int) (b2 : Int) (b3 : Int) (b4 : Bool) (w : World) : (do eqGuard .neq 26 x y (.agg ([.int .i64 a0, .int .i64 a1, .int .i64 a2, .int .i64 a3, .bool a4] : List Value).toArray) (.agg ([.int .i64 b0, .int .i64 b1, .int .i64 b2, .int .i64 b3, .bool b4] : List Value).toArray); binOp .neq 26 (.agg ([.int .i64 a0, .int .i64 a1, .int .i64 a2, .int .i64 a3, .bool a4] : List Value).toArray) (.agg ([.int .i64 b0, .int .i64 b1, .int .i64 b2, .int .i64 b3, .bool b4] : List Value).toArray) : Sem Value).run Try.prog w = .ok (.bool (!(((((a0 == b0) && (a1 == b1)) && (a2 == b2)) && (a3 == b3)) && (a4 == b4)))) w := by
  have iu3 := Try.underlying3
  have ia3 := Try.isAgg3
  have iz3 := Try.sizeOf3
  have iu4 := Try.underlying4
  have ia4 := Try.isAgg4
  have iz4 := Try.sizeOf4
  have hS : Try.prog.underlying 26 = some (.struct (Try.prog.fieldsOf 26)) := by kernel_rfl
  have hp : Try.prog.stoodInHeld 26 = false := by kernel_rfl
  have hm : Try.prog.eqGuardType Try.prog.depth 26 = false := by kernel_rfl
  rw [Sem.run_bind, run_eqGuard_agg _ _ _ _ _ _ _ hm, Result.andThen_ok, run_neq_struct, show (10000 : Nat) = 9999 + 1 from rfl, run_equalIn_agg w 9999 26 _ _ hS hp]
  simp only [Program.fieldsOf, Try.underlying26]
  go_simp
  by_cases h0 : a0 = b0 <;> by_cases h1 : a1 = b1 <;> by_cases h2 : a2 = b2 <;> by_cases h3 : a3 = b3 <;> by_cases h4 : a4 = b4 <;> simp [h0, h1, h2, h3, h4]
theorem eqr65 (x y : Operand) (a0 a1 b0 b1 : Int) (w : World) : (do eqGuard .eql 65 x y (.agg ([.int .i64 a0, .int .i64 a1] : List Value).toArray) (.agg ([.int .i64 b0, .int .i64 b1] : List Value).toArray); binOp .eql 65 (.agg ([.int .i64 a0, .int .i64 a1] : List Value).toArray) (.agg ([.int .i64 b0, .int .i64 b1] : List Value).toArray) : Sem Value).run Try.prog w = .ok (.bool ((a0 == b0) && (a1 == b1))) w := by
  have iu := Try.underlying3
  have ia := Try.isAgg3
  have iz := Try.sizeOf3
  have hA : Try.prog.underlying 65 = some (.array 2 3) := by kernel_rfl
  have hm : Try.prog.eqGuardType Try.prog.depth 65 = false := by kernel_rfl
  rw [Sem.run_bind, run_eqGuard_agg _ _ _ _ _ _ _ hm, Result.andThen_ok, run_eql_struct, show (10000 : Nat) = 9999 + 1 from rfl, Op.equalIn]
  simp only [Sem.run_bind, run_underlying hA, Result.andThen_ok]
  simp only [Std.Legacy.Range.forIn_eq_forIn_range', Std.Legacy.Range.size, Nat.sub_zero, Nat.add_sub_cancel, Nat.div_one, List.range'_succ, List.range'_zero, List.forIn_cons, List.forIn_nil]
  go_simp
  by_cases h0 : a0 = b0 <;> by_cases h1 : a1 = b1 <;> simp [h0, h1]
theorem ner65 (x y : Operand) (a0 a1 b0 b1 : Int) (w : World) : (do eqGuard .neq 65 x y (.agg ([.int .i64 a0, .int .i64 a1] : List Value).toArray) (.agg ([.int .i64 b0, .int .i64 b1] : List Value).toArray); binOp .neq 65 (.agg ([.int .i64 a0, .int .i64 a1] : List Value).toArray) (.agg ([.int .i64 b0, .int .i64 b1] : List Value).toArray) : Sem Value).run Try.prog w = .ok (.bool (!((a0 == b0) && (a1 == b1)))) w := by
  have iu := Try.underlying3
  have ia := Try.isAgg3
  have iz := Try.sizeOf3
  have hA : Try.prog.underlying 65 = some (.array 2 3) := by kernel_rfl
  have hm : Try.prog.eqGuardType Try.prog.depth 65 = false := by kernel_rfl
  rw [Sem.run_bind, run_eqGuard_agg _ _ _ _ _ _ _ hm, Result.andThen_ok, run_neq_struct, show (10000 : Nat) = 9999 + 1 from rfl, Op.equalIn]
  simp only [Sem.run_bind, run_underlying hA, Result.andThen_ok]
  simp only [Std.Legacy.Range.forIn_eq_forIn_range', Std.Legacy.Range.size, Nat.sub_zero, Nat.add_sub_cancel, Nat.div_one, List.range'_succ, List.range'_zero, List.forIn_cons, List.forIn_nil]
  go_simp
  by_cases h0 : a0 = b0 <;> by_cases h1 : a1 = b1 <;> simp [h0, h1]
end Go.Proofs.Ytlhjgnodhdlooaa
