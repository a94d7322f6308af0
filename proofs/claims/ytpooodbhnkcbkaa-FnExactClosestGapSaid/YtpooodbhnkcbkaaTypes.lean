/- Facts on the types of this seat, out of the loaded program. -/
import Derived.Test.YtpooodbhnkcbkaaProg
import Derived.Test.YtpooodbhnkcbkaaEng
namespace Go.Proofs.Ytpooodbhnkcbkaa
open Go.RowKit
theorem mixedOrders : Try.prog.follows .mixedOrders = true := by kernel_rfl
theorem sz3 : (Try.prog.info? 3).map (·.size) = some 1 := by kernel_rfl
theorem ld3 {p : Addr} {v : Value} : ∀ w : World, w.cell? p = some v → (Instr.loadAt 3 (.pointer (some p))).run Try.prog w = .ok v w := run_loadAt_one Try.underlying3 rfl
theorem sz4 : (Try.prog.info? 4).map (·.size) = some 1 := by kernel_rfl
theorem ld4 {p : Addr} {v : Value} : ∀ w : World, w.cell? p = some v → (Instr.loadAt 4 (.pointer (some p))).run Try.prog w = .ok v w := run_loadAt_one Try.underlying4 rfl
theorem sz5 : (Try.prog.info? 5).map (·.size) = some 1 := by kernel_rfl
theorem ld5 {p : Addr} {v : Value} : ∀ w : World, w.cell? p = some v → (Instr.loadAt 5 (.pointer (some p))).run Try.prog w = .ok v w := run_loadAt_one Try.underlying5 rfl
theorem sz23 : (Try.prog.info? 23).map (·.size) = some 4 := by kernel_rfl
theorem zero23 : (Try.prog.info? 23).map (fun i => (i.zero.map (·.cells.size), i.size)) = some (some 4, 4) := by kernel_rfl
theorem ldv23 {b q : Nat} {cs : List Value} {w : World} (hl : cs.length = 4) (h : w.rangeAt b q cs) : (loadVar 23 ⟨b, q, none⟩).run Try.prog w = .ok (.agg cs.toArray) w := run_loadVar_mid w b q 23 cs _ h Try.underlying23 rfl (by rw [hl]; exact sz23)
theorem sz25 : (Try.prog.info? 25).map (·.size) = some 4 := by kernel_rfl
theorem zero25 : (Try.prog.info? 25).map (fun i => (i.zero.map (·.cells.size), i.size)) = some (some 4, 4) := by kernel_rfl
theorem ldv25 {b q : Nat} {cs : List Value} {w : World} (hl : cs.length = 4) (h : w.rangeAt b q cs) : (loadVar 25 ⟨b, q, none⟩).run Try.prog w = .ok (.agg cs.toArray) w := run_loadVar_mid w b q 25 cs _ h Try.underlying25 rfl (by rw [hl]; exact sz25)
theorem sz33 : (Try.prog.info? 33).map (·.size) = some 1 := by kernel_rfl
theorem ld33 {p : Addr} {v : Value} : ∀ w : World, w.cell? p = some v → (Instr.loadAt 33 (.pointer (some p))).run Try.prog w = .ok v w := run_loadAt_one Try.underlying33 rfl
theorem sz38 : (Try.prog.info? 38).map (·.size) = some 2 := by kernel_rfl
theorem zero38 : (Try.prog.info? 38).map (fun i => (i.zero.map (·.cells.size), i.size)) = some (some 2, 2) := by kernel_rfl
theorem ldv38 {b q : Nat} {cs : List Value} {w : World} (hl : cs.length = 2) (h : w.rangeAt b q cs) : (loadVar 38 ⟨b, q, none⟩).run Try.prog w = .ok (.agg cs.toArray) w := run_loadVar_mid w b q 38 cs _ h Try.underlying38 rfl (by rw [hl]; exact sz38)
theorem sz47 : (Try.prog.info? 47).map (·.size) = some 1 := by kernel_rfl
theorem ld47 {p : Addr} {v : Value} : ∀ w : World, w.cell? p = some v → (Instr.loadAt 47 (.pointer (some p))).run Try.prog w = .ok v w := run_loadAt_one Try.underlying47 rfl
theorem sz49 : (Try.prog.info? 49).map (·.size) = some 1 := by kernel_rfl
theorem ld49 {p : Addr} {v : Value} : ∀ w : World, w.cell? p = some v → (Instr.loadAt 49 (.pointer (some p))).run Try.prog w = .ok v w := run_loadAt_one Try.underlying49 rfl
theorem sz52 : (Try.prog.info? 52).map (·.size) = some 1 := by kernel_rfl
theorem ld52 {p : Addr} {v : Value} : ∀ w : World, w.cell? p = some v → (Instr.loadAt 52 (.pointer (some p))).run Try.prog w = .ok v w := run_loadAt_one Try.underlying52 rfl
theorem sz66 : (Try.prog.info? 66).map (·.size) = some 1 := by kernel_rfl
theorem ld66 {p : Addr} {v : Value} : ∀ w : World, w.cell? p = some v → (Instr.loadAt 66 (.pointer (some p))).run Try.prog w = .ok v w := run_loadAt_one Try.underlying66 rfl
theorem sz67 : (Try.prog.info? 67).map (·.size) = some 1 := by kernel_rfl
theorem ld67 {p : Addr} {v : Value} : ∀ w : World, w.cell? p = some v → (Instr.loadAt 67 (.pointer (some p))).run Try.prog w = .ok v w := run_loadAt_one Try.underlying67 rfl
theorem sz78 : (Try.prog.info? 78).map (·.size) = some 1 := by kernel_rfl
theorem ld78 {p : Addr} {v : Value} : ∀ w : World, w.cell? p = some v → (Instr.loadAt 78 (.pointer (some p))).run Try.prog w = .ok v w := run_loadAt_one Try.underlying78 rfl
theorem sz93 : (Try.prog.info? 93).map (·.size) = some 1 := by kernel_rfl
theorem ld93 {p : Addr} {v : Value} : ∀ w : World, w.cell? p = some v → (Instr.loadAt 93 (.pointer (some p))).run Try.prog w = .ok v w := run_loadAt_one Try.underlying93 rfl
theorem sz94 : (Try.prog.info? 94).map (·.size) = some 1 := by kernel_rfl
theorem ld94 {p : Addr} {v : Value} : ∀ w : World, w.cell? p = some v → (Instr.loadAt 94 (.pointer (some p))).run Try.prog w = .ok v w := run_loadAt_one Try.underlying94 rfl
theorem sz96 : (Try.prog.info? 96).map (·.size) = some 3 := by kernel_rfl
theorem zero96 : (Try.prog.info? 96).map (fun i => (i.zero.map (·.cells.size), i.size)) = some (some 3, 3) := by kernel_rfl
theorem ldv96 {b q : Nat} {cs : List Value} {w : World} (hl : cs.length = 3) (h : w.rangeAt b q cs) : (loadVar 96 ⟨b, q, none⟩).run Try.prog w = .ok (.agg cs.toArray) w := run_loadVar_mid w b q 96 cs _ h Try.underlying96 rfl (by rw [hl]; exact sz96)
theorem sz100 : (Try.prog.info? 100).map (·.size) = some 2 := by kernel_rfl
theorem zero100 : (Try.prog.info? 100).map (fun i => (i.zero.map (·.cells.size), i.size)) = some (some 2, 2) := by kernel_rfl
theorem ldv100 {b q : Nat} {cs : List Value} {w : World} (hl : cs.length = 2) (h : w.rangeAt b q cs) : (loadVar 100 ⟨b, q, none⟩).run Try.prog w = .ok (.agg cs.toArray) w := run_loadVar_mid w b q 100 cs _ h Try.underlying100 rfl (by rw [hl]; exact sz100)
theorem sz115 : (Try.prog.info? 115).map (·.size) = some 5 := by kernel_rfl
theorem zero115 : (Try.prog.info? 115).map (fun i => (i.zero.map (·.cells.size), i.size)) = some (some 5, 5) := by kernel_rfl
theorem ldv115 {b q : Nat} {cs : List Value} {w : World} (hl : cs.length = 5) (h : w.rangeAt b q cs) : (loadVar 115 ⟨b, q, none⟩).run Try.prog w = .ok (.agg cs.toArray) w := run_loadVar_mid w b q 115 cs _ h Try.underlying115 rfl (by rw [hl]; exact sz115)
theorem sz121 : (Try.prog.info? 121).map (·.size) = some 5 := by kernel_rfl
theorem zero121 : (Try.prog.info? 121).map (fun i => (i.zero.map (·.cells.size), i.size)) = some (some 5, 5) := by kernel_rfl
theorem ldv121 {b q : Nat} {cs : List Value} {w : World} (hl : cs.length = 5) (h : w.rangeAt b q cs) : (loadVar 121 ⟨b, q, none⟩).run Try.prog w = .ok (.agg cs.toArray) w := run_loadVar_mid w b q 121 cs _ h Try.underlying121 rfl (by rw [hl]; exact sz121)
theorem sz125 : (Try.prog.info? 125).map (·.size) = some 2 := by kernel_rfl
theorem zero125 : (Try.prog.info? 125).map (fun i => (i.zero.map (·.cells.size), i.size)) = some (some 2, 2) := by kernel_rfl
theorem ldv125 {b q : Nat} {cs : List Value} {w : World} (hl : cs.length = 2) (h : w.rangeAt b q cs) : (loadVar 125 ⟨b, q, none⟩).run Try.prog w = .ok (.agg cs.toArray) w := run_loadVar_mid w b q 125 cs _ h Try.underlying125 rfl (by rw [hl]; exact sz125)
theorem fld23_0 (b q : Nat) : ∀ w, (Instr.fieldAt 23 (.pointer (some ⟨b, q, none⟩)) 0).run Try.prog w = .ok (.pointer (some ⟨b, q + 0, none⟩)) w := run_fieldAt_of Try.underlying23 rfl rfl sz3
theorem fld23_1 (b q : Nat) : ∀ w, (Instr.fieldAt 23 (.pointer (some ⟨b, q, none⟩)) 1).run Try.prog w = .ok (.pointer (some ⟨b, q + 1, none⟩)) w := run_fieldAt_of Try.underlying23 rfl rfl sz3
theorem fld23_2 (b q : Nat) : ∀ w, (Instr.fieldAt 23 (.pointer (some ⟨b, q, none⟩)) 2).run Try.prog w = .ok (.pointer (some ⟨b, q + 2, none⟩)) w := run_fieldAt_of Try.underlying23 rfl rfl sz3
theorem fld23_3 (b q : Nat) : ∀ w, (Instr.fieldAt 23 (.pointer (some ⟨b, q, none⟩)) 3).run Try.prog w = .ok (.pointer (some ⟨b, q + 3, none⟩)) w := run_fieldAt_of Try.underlying23 rfl rfl sz3
theorem fld25_0 (b q : Nat) : ∀ w, (Instr.fieldAt 25 (.pointer (some ⟨b, q, none⟩)) 0).run Try.prog w = .ok (.pointer (some ⟨b, q + 0, none⟩)) w := run_fieldAt_of Try.underlying25 rfl rfl sz3
theorem fld25_1 (b q : Nat) : ∀ w, (Instr.fieldAt 25 (.pointer (some ⟨b, q, none⟩)) 1).run Try.prog w = .ok (.pointer (some ⟨b, q + 1, none⟩)) w := run_fieldAt_of Try.underlying25 rfl rfl sz3
theorem fld25_2 (b q : Nat) : ∀ w, (Instr.fieldAt 25 (.pointer (some ⟨b, q, none⟩)) 2).run Try.prog w = .ok (.pointer (some ⟨b, q + 2, none⟩)) w := run_fieldAt_of Try.underlying25 rfl rfl sz3
theorem fld25_3 (b q : Nat) : ∀ w, (Instr.fieldAt 25 (.pointer (some ⟨b, q, none⟩)) 3).run Try.prog w = .ok (.pointer (some ⟨b, q + 3, none⟩)) w := run_fieldAt_of Try.underlying25 rfl rfl sz3
theorem fld38_0 (b q : Nat) : ∀ w, (Instr.fieldAt 38 (.pointer (some ⟨b, q, none⟩)) 0).run Try.prog w = .ok (.pointer (some ⟨b, q + 0, none⟩)) w := run_fieldAt_of Try.underlying38 rfl rfl sz3
theorem fld38_1 (b q : Nat) : ∀ w, (Instr.fieldAt 38 (.pointer (some ⟨b, q, none⟩)) 1).run Try.prog w = .ok (.pointer (some ⟨b, q + 1, none⟩)) w := run_fieldAt_of Try.underlying38 rfl rfl sz3
theorem fld96_0 (b q : Nat) : ∀ w, (Instr.fieldAt 96 (.pointer (some ⟨b, q, none⟩)) 0).run Try.prog w = .ok (.pointer (some ⟨b, q + 0, none⟩)) w := run_fieldAt_of Try.underlying96 rfl rfl sz33
theorem fld96_1 (b q : Nat) : ∀ w, (Instr.fieldAt 96 (.pointer (some ⟨b, q, none⟩)) 1).run Try.prog w = .ok (.pointer (some ⟨b, q + 1, none⟩)) w := run_fieldAt_of Try.underlying96 rfl rfl sz3
theorem fld96_2 (b q : Nat) : ∀ w, (Instr.fieldAt 96 (.pointer (some ⟨b, q, none⟩)) 2).run Try.prog w = .ok (.pointer (some ⟨b, q + 2, none⟩)) w := run_fieldAt_of Try.underlying96 rfl rfl sz94
theorem fld115_0 (b q : Nat) : ∀ w, (Instr.fieldAt 115 (.pointer (some ⟨b, q, none⟩)) 0).run Try.prog w = .ok (.pointer (some ⟨b, q + 0, none⟩)) w := run_fieldAt_of Try.underlying115 rfl rfl sz3
theorem fld115_1 (b q : Nat) : ∀ w, (Instr.fieldAt 115 (.pointer (some ⟨b, q, none⟩)) 1).run Try.prog w = .ok (.pointer (some ⟨b, q + 1, none⟩)) w := run_fieldAt_of Try.underlying115 rfl rfl sz3
theorem fld115_2 (b q : Nat) : ∀ w, (Instr.fieldAt 115 (.pointer (some ⟨b, q, none⟩)) 2).run Try.prog w = .ok (.pointer (some ⟨b, q + 2, none⟩)) w := run_fieldAt_of Try.underlying115 rfl rfl sz3
theorem fld115_3 (b q : Nat) : ∀ w, (Instr.fieldAt 115 (.pointer (some ⟨b, q, none⟩)) 3).run Try.prog w = .ok (.pointer (some ⟨b, q + 3, none⟩)) w := run_fieldAt_of Try.underlying115 rfl rfl sz3
theorem fld115_4 (b q : Nat) : ∀ w, (Instr.fieldAt 115 (.pointer (some ⟨b, q, none⟩)) 4).run Try.prog w = .ok (.pointer (some ⟨b, q + 4, none⟩)) w := run_fieldAt_of Try.underlying115 rfl rfl sz4
theorem fld121_0 (b q : Nat) : ∀ w, (Instr.fieldAt 121 (.pointer (some ⟨b, q, none⟩)) 0).run Try.prog w = .ok (.pointer (some ⟨b, q + 0, none⟩)) w := run_fieldAt_of Try.underlying121 rfl rfl sz3
theorem fld121_1 (b q : Nat) : ∀ w, (Instr.fieldAt 121 (.pointer (some ⟨b, q, none⟩)) 1).run Try.prog w = .ok (.pointer (some ⟨b, q + 1, none⟩)) w := run_fieldAt_of Try.underlying121 rfl rfl sz3
theorem fld121_2 (b q : Nat) : ∀ w, (Instr.fieldAt 121 (.pointer (some ⟨b, q, none⟩)) 2).run Try.prog w = .ok (.pointer (some ⟨b, q + 2, none⟩)) w := run_fieldAt_of Try.underlying121 rfl rfl sz3
theorem fld121_3 (b q : Nat) : ∀ w, (Instr.fieldAt 121 (.pointer (some ⟨b, q, none⟩)) 3).run Try.prog w = .ok (.pointer (some ⟨b, q + 3, none⟩)) w := run_fieldAt_of Try.underlying121 rfl rfl sz3
theorem fld121_4 (b q : Nat) : ∀ w, (Instr.fieldAt 121 (.pointer (some ⟨b, q, none⟩)) 4).run Try.prog w = .ok (.pointer (some ⟨b, q + 4, none⟩)) w := run_fieldAt_of Try.underlying121 rfl rfl sz4
theorem fld125_0 (b q : Nat) : ∀ w, (Instr.fieldAt 125 (.pointer (some ⟨b, q, none⟩)) 0).run Try.prog w = .ok (.pointer (some ⟨b, q + 0, none⟩)) w := run_fieldAt_of Try.underlying125 rfl rfl sz3
theorem fld125_1 (b q : Nat) : ∀ w, (Instr.fieldAt 125 (.pointer (some ⟨b, q, none⟩)) 1).run Try.prog w = .ok (.pointer (some ⟨b, q + 1, none⟩)) w := run_fieldAt_of Try.underlying125 rfl rfl sz3
end Go.Proofs.Ytpooodbhnkcbkaa
