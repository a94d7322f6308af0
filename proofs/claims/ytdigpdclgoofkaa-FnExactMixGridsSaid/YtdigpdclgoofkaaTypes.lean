/- Facts on the types of this seat, out of the loaded program. -/
import Derived.Test.YtdigpdclgoofkaaProg
import Derived.Test.YtdigpdclgoofkaaEng
namespace Go.Proofs.Ytdigpdclgoofkaa
open Go.RowKit
theorem mixedOrders : Try.prog.follows .mixedOrders = true := by kernel_rfl
theorem sz3 : (Try.prog.info? 3).map (·.size) = some 1 := by kernel_rfl
theorem ld3 {p : Addr} {v : Value} : ∀ w : World, w.cell? p = some v → (Instr.loadAt 3 (.pointer (some p))).run Try.prog w = .ok v w := run_loadAt_one Try.underlying3 rfl
theorem sz4 : (Try.prog.info? 4).map (·.size) = some 1 := by kernel_rfl
theorem ld4 {p : Addr} {v : Value} : ∀ w : World, w.cell? p = some v → (Instr.loadAt 4 (.pointer (some p))).run Try.prog w = .ok v w := run_loadAt_one Try.underlying4 rfl
theorem sz5 : (Try.prog.info? 5).map (·.size) = some 1 := by kernel_rfl
theorem ld5 {p : Addr} {v : Value} : ∀ w : World, w.cell? p = some v → (Instr.loadAt 5 (.pointer (some p))).run Try.prog w = .ok v w := run_loadAt_one Try.underlying5 rfl
theorem sz22 : (Try.prog.info? 22).map (·.size) = some 1 := by kernel_rfl
theorem ld22 {p : Addr} {v : Value} : ∀ w : World, w.cell? p = some v → (Instr.loadAt 22 (.pointer (some p))).run Try.prog w = .ok v w := run_loadAt_one Try.underlying22 rfl
theorem sz24 : (Try.prog.info? 24).map (·.size) = some 3 := by kernel_rfl
theorem zero24 : (Try.prog.info? 24).map (fun i => (i.zero.map (·.cells.size), i.size)) = some (some 3, 3) := by kernel_rfl
theorem ldv24 {b q : Nat} {cs : List Value} {w : World} (hl : cs.length = 3) (h : w.rangeAt b q cs) : (loadVar 24 ⟨b, q, none⟩).run Try.prog w = .ok (.agg cs.toArray) w := run_loadVar_mid w b q 24 cs _ h Try.underlying24 rfl (by rw [hl]; exact sz24)
theorem sz27 : (Try.prog.info? 27).map (·.size) = some 1 := by kernel_rfl
theorem ld27 {p : Addr} {v : Value} : ∀ w : World, w.cell? p = some v → (Instr.loadAt 27 (.pointer (some p))).run Try.prog w = .ok v w := run_loadAt_one Try.underlying27 rfl
theorem sz29 : (Try.prog.info? 29).map (·.size) = some 3 := by kernel_rfl
theorem zero29 : (Try.prog.info? 29).map (fun i => (i.zero.map (·.cells.size), i.size)) = some (some 3, 3) := by kernel_rfl
theorem ldv29 {b q : Nat} {cs : List Value} {w : World} (hl : cs.length = 3) (h : w.rangeAt b q cs) : (loadVar 29 ⟨b, q, none⟩).run Try.prog w = .ok (.agg cs.toArray) w := run_loadVar_mid w b q 29 cs _ h Try.underlying29 rfl (by rw [hl]; exact sz29)
theorem sz39 : (Try.prog.info? 39).map (·.size) = some 2 := by kernel_rfl
theorem zero39 : (Try.prog.info? 39).map (fun i => (i.zero.map (·.cells.size), i.size)) = some (some 2, 2) := by kernel_rfl
theorem ldv39 {b q : Nat} {cs : List Value} {w : World} (hl : cs.length = 2) (h : w.rangeAt b q cs) : (loadVar 39 ⟨b, q, none⟩).run Try.prog w = .ok (.agg cs.toArray) w := run_loadVar_mid w b q 39 cs _ h Try.underlying39 rfl (by rw [hl]; exact sz39)
theorem sz47 : (Try.prog.info? 47).map (·.size) = some 2 := by kernel_rfl
theorem zero47 : (Try.prog.info? 47).map (fun i => (i.zero.map (·.cells.size), i.size)) = some (some 2, 2) := by kernel_rfl
theorem ldv47 {b q : Nat} {cs : List Value} {w : World} (hl : cs.length = 2) (h : w.rangeAt b q cs) : (loadVar 47 ⟨b, q, none⟩).run Try.prog w = .ok (.agg cs.toArray) w := run_loadVar_mid w b q 47 cs _ h Try.underlying47 rfl (by rw [hl]; exact sz47)
theorem sz49 : (Try.prog.info? 49).map (·.size) = some 2 := by kernel_rfl
theorem zero49 : (Try.prog.info? 49).map (fun i => (i.zero.map (·.cells.size), i.size)) = some (some 2, 2) := by kernel_rfl
theorem ldv49 {b q : Nat} {cs : List Value} {w : World} (hl : cs.length = 2) (h : w.rangeAt b q cs) : (loadVar 49 ⟨b, q, none⟩).run Try.prog w = .ok (.agg cs.toArray) w := run_loadVar_mid w b q 49 cs _ h Try.underlying49 rfl (by rw [hl]; exact sz49)
theorem sz52 : (Try.prog.info? 52).map (·.size) = some 2 := by kernel_rfl
theorem zero52 : (Try.prog.info? 52).map (fun i => (i.zero.map (·.cells.size), i.size)) = some (some 2, 2) := by kernel_rfl
theorem ldv52 {b q : Nat} {cs : List Value} {w : World} (hl : cs.length = 2) (h : w.rangeAt b q cs) : (loadVar 52 ⟨b, q, none⟩).run Try.prog w = .ok (.agg cs.toArray) w := run_loadVar_mid w b q 52 cs _ h Try.underlying52 rfl (by rw [hl]; exact sz52)
theorem sz57 : (Try.prog.info? 57).map (·.size) = some 1 := by kernel_rfl
theorem ld57 {p : Addr} {v : Value} : ∀ w : World, w.cell? p = some v → (Instr.loadAt 57 (.pointer (some p))).run Try.prog w = .ok v w := run_loadAt_one Try.underlying57 rfl
theorem sz63 : (Try.prog.info? 63).map (·.size) = some 1 := by kernel_rfl
theorem ld63 {p : Addr} {v : Value} : ∀ w : World, w.cell? p = some v → (Instr.loadAt 63 (.pointer (some p))).run Try.prog w = .ok v w := run_loadAt_one Try.underlying63 rfl
theorem sz93 : (Try.prog.info? 93).map (·.size) = some 1 := by kernel_rfl
theorem ld93 {p : Addr} {v : Value} : ∀ w : World, w.cell? p = some v → (Instr.loadAt 93 (.pointer (some p))).run Try.prog w = .ok v w := run_loadAt_one Try.underlying93 rfl
theorem sz94 : (Try.prog.info? 94).map (·.size) = some 1 := by kernel_rfl
theorem ld94 {p : Addr} {v : Value} : ∀ w : World, w.cell? p = some v → (Instr.loadAt 94 (.pointer (some p))).run Try.prog w = .ok v w := run_loadAt_one Try.underlying94 rfl
theorem sz96 : (Try.prog.info? 96).map (·.size) = some 3 := by kernel_rfl
theorem zero96 : (Try.prog.info? 96).map (fun i => (i.zero.map (·.cells.size), i.size)) = some (some 3, 3) := by kernel_rfl
theorem ldv96 {b q : Nat} {cs : List Value} {w : World} (hl : cs.length = 3) (h : w.rangeAt b q cs) : (loadVar 96 ⟨b, q, none⟩).run Try.prog w = .ok (.agg cs.toArray) w := run_loadVar_mid w b q 96 cs _ h Try.underlying96 rfl (by rw [hl]; exact sz96)
theorem sz100 : (Try.prog.info? 100).map (·.size) = some 1 := by kernel_rfl
theorem ld100 {p : Addr} {v : Value} : ∀ w : World, w.cell? p = some v → (Instr.loadAt 100 (.pointer (some p))).run Try.prog w = .ok v w := run_loadAt_one Try.underlying100 rfl
theorem fld24_0 (b q : Nat) : ∀ w, (Instr.fieldAt 24 (.pointer (some ⟨b, q, none⟩)) 0).run Try.prog w = .ok (.pointer (some ⟨b, q + 0, none⟩)) w := run_fieldAt_of Try.underlying24 rfl rfl sz3
theorem fld24_1 (b q : Nat) : ∀ w, (Instr.fieldAt 24 (.pointer (some ⟨b, q, none⟩)) 1).run Try.prog w = .ok (.pointer (some ⟨b, q + 1, none⟩)) w := run_fieldAt_of Try.underlying24 rfl rfl sz3
theorem fld24_2 (b q : Nat) : ∀ w, (Instr.fieldAt 24 (.pointer (some ⟨b, q, none⟩)) 2).run Try.prog w = .ok (.pointer (some ⟨b, q + 2, none⟩)) w := run_fieldAt_of Try.underlying24 rfl rfl sz22
theorem fld29_0 (b q : Nat) : ∀ w, (Instr.fieldAt 29 (.pointer (some ⟨b, q, none⟩)) 0).run Try.prog w = .ok (.pointer (some ⟨b, q + 0, none⟩)) w := run_fieldAt_of Try.underlying29 rfl rfl sz3
theorem fld29_1 (b q : Nat) : ∀ w, (Instr.fieldAt 29 (.pointer (some ⟨b, q, none⟩)) 1).run Try.prog w = .ok (.pointer (some ⟨b, q + 1, none⟩)) w := run_fieldAt_of Try.underlying29 rfl rfl sz3
theorem fld29_2 (b q : Nat) : ∀ w, (Instr.fieldAt 29 (.pointer (some ⟨b, q, none⟩)) 2).run Try.prog w = .ok (.pointer (some ⟨b, q + 2, none⟩)) w := run_fieldAt_of Try.underlying29 rfl rfl sz27
theorem fld39_0 (b q : Nat) : ∀ w, (Instr.fieldAt 39 (.pointer (some ⟨b, q, none⟩)) 0).run Try.prog w = .ok (.pointer (some ⟨b, q + 0, none⟩)) w := run_fieldAt_of Try.underlying39 rfl rfl sz3
theorem fld39_1 (b q : Nat) : ∀ w, (Instr.fieldAt 39 (.pointer (some ⟨b, q, none⟩)) 1).run Try.prog w = .ok (.pointer (some ⟨b, q + 1, none⟩)) w := run_fieldAt_of Try.underlying39 rfl rfl sz3
theorem fld47_0 (b q : Nat) : ∀ w, (Instr.fieldAt 47 (.pointer (some ⟨b, q, none⟩)) 0).run Try.prog w = .ok (.pointer (some ⟨b, q + 0, none⟩)) w := run_fieldAt_of Try.underlying47 rfl rfl sz3
theorem fld47_1 (b q : Nat) : ∀ w, (Instr.fieldAt 47 (.pointer (some ⟨b, q, none⟩)) 1).run Try.prog w = .ok (.pointer (some ⟨b, q + 1, none⟩)) w := run_fieldAt_of Try.underlying47 rfl rfl sz3
theorem fld49_0 (b q : Nat) : ∀ w, (Instr.fieldAt 49 (.pointer (some ⟨b, q, none⟩)) 0).run Try.prog w = .ok (.pointer (some ⟨b, q + 0, none⟩)) w := run_fieldAt_of Try.underlying49 rfl rfl sz3
theorem fld49_1 (b q : Nat) : ∀ w, (Instr.fieldAt 49 (.pointer (some ⟨b, q, none⟩)) 1).run Try.prog w = .ok (.pointer (some ⟨b, q + 1, none⟩)) w := run_fieldAt_of Try.underlying49 rfl rfl sz3
theorem fld52_0 (b q : Nat) : ∀ w, (Instr.fieldAt 52 (.pointer (some ⟨b, q, none⟩)) 0).run Try.prog w = .ok (.pointer (some ⟨b, q + 0, none⟩)) w := run_fieldAt_of Try.underlying52 rfl rfl sz3
theorem fld52_1 (b q : Nat) : ∀ w, (Instr.fieldAt 52 (.pointer (some ⟨b, q, none⟩)) 1).run Try.prog w = .ok (.pointer (some ⟨b, q + 1, none⟩)) w := run_fieldAt_of Try.underlying52 rfl rfl sz3
theorem fld96_0 (b q : Nat) : ∀ w, (Instr.fieldAt 96 (.pointer (some ⟨b, q, none⟩)) 0).run Try.prog w = .ok (.pointer (some ⟨b, q + 0, none⟩)) w := run_fieldAt_of Try.underlying96 rfl rfl sz63
theorem fld96_1 (b q : Nat) : ∀ w, (Instr.fieldAt 96 (.pointer (some ⟨b, q, none⟩)) 1).run Try.prog w = .ok (.pointer (some ⟨b, q + 1, none⟩)) w := run_fieldAt_of Try.underlying96 rfl rfl sz3
theorem fld96_2 (b q : Nat) : ∀ w, (Instr.fieldAt 96 (.pointer (some ⟨b, q, none⟩)) 2).run Try.prog w = .ok (.pointer (some ⟨b, q + 2, none⟩)) w := run_fieldAt_of Try.underlying96 rfl rfl sz94
end Go.Proofs.Ytdigpdclgoofkaa
