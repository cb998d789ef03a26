/-
  DERIVED. GIVEN WITH THE SEED: THE CARDS: each row of YtpdemfnemkmelaaDoorRows.lean that lists a variable, with what it lists TIED to the program's text (the seventh form; the later family's looks); each row that meets fmt, with fmt's text TOLD by the authors' own Lean function (tested against real Go, not proved from fmt's source: count such statements apart). THE CARD IS WHAT COUNTS. Prove the row's statement (the work); the ties are given (YtpdemfnemkmelaaDoorTie.lean); close each card by the builder's one call (the guide's Derived/Test/ToyasCard.lean, 'card_holds'). Laid BY PROGRAM, IN A SANDBOX (cutbox-door.mjs). By AI agents, Wed Nov 11 2026. No macro, syntax, notation, axiom, sorry.
-/
import Derived.Test.YtpdemfnemkmelaaDoorRows
import GoSem.ClaimSeven
namespace Go.Proofs.YtpdemfnemkmelaaDoor
namespace Rows

/-- THE TIED CARD OF 'recouplaw24.EmitBack'. -/
def emitBackCard : Claim7 := { stood := { row := emitBackRow, standIns := [], harness := (true, "b9e506b01c642f8c326101d77adb4c6fe2ad585bce73a7fa67971a3e3424b66e"), looks := true }, kinds := [], alts := [], laidByText := true, laidKinds := [.data, .data, .data, .data, .sentinel, .sentinel, .pinned], laidTests := true, laidLooks := .later }
def EmitBackCardSaid : Prop := Claim7.holds Tryd.pinned (.plain (OpenSpec.ofChange emitBackSpec)) emitBackCard

/-- THE TIED CARD OF 'recouplaw24.EmitForms'. -/
def emitFormsCard : Claim7 := { stood := { row := emitFormsRow, standIns := [], harness := (true, "b9e506b01c642f8c326101d77adb4c6fe2ad585bce73a7fa67971a3e3424b66e"), looks := true }, kinds := [], alts := [], laidByText := true, laidKinds := [.data, .data, .data, .data, .sentinel, .sentinel, .pinned], laidTests := true, laidLooks := .later }
def EmitFormsCardSaid : Prop := Claim7.holds Tryd.pinned (.plain (OpenSpec.ofChange emitFormsSpec)) emitFormsCard

/-- THE TIED CARD OF 'recouplaw24.EmitFresh'. -/
def emitFreshCard : Claim7 := { stood := { row := emitFreshRow, standIns := [], harness := (true, "b9e506b01c642f8c326101d77adb4c6fe2ad585bce73a7fa67971a3e3424b66e"), looks := true }, kinds := [], alts := [], laidByText := true, laidKinds := [.data, .data, .data], laidTests := true, laidLooks := .later }
def EmitFreshCardSaid : Prop := Claim7.holds Tryd.pinned (.plain (OpenSpec.ofChange emitFreshSpec)) emitFreshCard

/-- THE TIED CARD OF 'recouplaw24.EmitLines'. -/
def emitLinesCard : Claim7 := { stood := { row := emitLinesRow, standIns := [], harness := (true, "b9e506b01c642f8c326101d77adb4c6fe2ad585bce73a7fa67971a3e3424b66e"), looks := true }, kinds := [], alts := [], laidByText := true, laidKinds := [.data, .data, .data, .data, .sentinel, .sentinel, .pinned], laidTests := true, laidLooks := .later }
def EmitLinesCardSaid : Prop := Claim7.holds Tryd.pinned (.plain (OpenSpec.ofChange emitLinesSpec)) emitLinesCard

/-- THE TIED CARD OF 'recouplaw24.EmitReads'. -/
def emitReadsCard : Claim7 := { stood := { row := emitReadsRow, standIns := [], harness := (true, "b9e506b01c642f8c326101d77adb4c6fe2ad585bce73a7fa67971a3e3424b66e"), looks := true }, kinds := [], alts := [], laidByText := true, laidKinds := [.data, .data, .data], laidTests := true, laidLooks := .later }
def EmitReadsCardSaid : Prop := Claim7.holds Tryd.pinned (.plain (OpenSpec.ofChange emitReadsSpec)) emitReadsCard

/-- THE TIED CARD OF 'recouplaw24.EmitUnlike'. -/
def emitUnlikeCard : Claim7 := { stood := { row := emitUnlikeRow, standIns := [], harness := (true, "b9e506b01c642f8c326101d77adb4c6fe2ad585bce73a7fa67971a3e3424b66e"), looks := true }, kinds := [], alts := [], laidByText := true, laidKinds := [.data, .data, .data], laidTests := true, laidLooks := .later }
def EmitUnlikeCardSaid : Prop := Claim7.holds Tryd.pinned (.plain (OpenSpec.ofChange emitUnlikeSpec)) emitUnlikeCard

/-- THE TIED CARD OF 'recouplaw24.EmitWrites'. -/
def emitWritesCard : Claim7 := { stood := { row := emitWritesRow, standIns := [], harness := (true, "b9e506b01c642f8c326101d77adb4c6fe2ad585bce73a7fa67971a3e3424b66e"), looks := true }, kinds := [], alts := [], laidByText := true, laidKinds := [.data, .data, .data], laidTests := true, laidLooks := .later }
def EmitWritesCardSaid : Prop := Claim7.holds Tryd.pinned (.plain (OpenSpec.ofChange emitWritesSpec)) emitWritesCard

/-- THE SECOND FORM's CARD OF 'recouplaw24.EmitBack'. -/
def emitBackUptoCard : Claim7 := { stood := { row := emitBackUptoRow, standIns := [], harness := (true, "b9e506b01c642f8c326101d77adb4c6fe2ad585bce73a7fa67971a3e3424b66e"), looks := true }, kinds := [], alts := [], laidByText := true, laidKinds := [.data, .data, .data, .data, .sentinel, .sentinel, .pinned], laidTests := true, laidLooks := .later }
def EmitBackUptoCardSaid : Prop := Claim7.holds Tryd.pinned (.plain (OpenSpec.upto emitBackSpec)) emitBackUptoCard

/-- THE SECOND FORM's CARD OF 'recouplaw24.EmitForms'. -/
def emitFormsUptoCard : Claim7 := { stood := { row := emitFormsUptoRow, standIns := [], harness := (true, "b9e506b01c642f8c326101d77adb4c6fe2ad585bce73a7fa67971a3e3424b66e"), looks := true }, kinds := [], alts := [], laidByText := true, laidKinds := [.data, .data, .data, .data, .sentinel, .sentinel, .pinned], laidTests := true, laidLooks := .later }
def EmitFormsUptoCardSaid : Prop := Claim7.holds Tryd.pinned (.plain (OpenSpec.upto emitFormsSpec)) emitFormsUptoCard

/-- THE SECOND FORM's CARD OF 'recouplaw24.EmitFresh'. -/
def emitFreshUptoCard : Claim7 := { stood := { row := emitFreshUptoRow, standIns := [], harness := (true, "b9e506b01c642f8c326101d77adb4c6fe2ad585bce73a7fa67971a3e3424b66e"), looks := true }, kinds := [], alts := [], laidByText := true, laidKinds := [.data, .data, .data], laidTests := true, laidLooks := .later }
def EmitFreshUptoCardSaid : Prop := Claim7.holds Tryd.pinned (.plain (OpenSpec.upto emitFreshSpec)) emitFreshUptoCard

/-- THE SECOND FORM's CARD OF 'recouplaw24.EmitLines'. -/
def emitLinesUptoCard : Claim7 := { stood := { row := emitLinesUptoRow, standIns := [], harness := (true, "b9e506b01c642f8c326101d77adb4c6fe2ad585bce73a7fa67971a3e3424b66e"), looks := true }, kinds := [], alts := [], laidByText := true, laidKinds := [.data, .data, .data, .data, .sentinel, .sentinel, .pinned], laidTests := true, laidLooks := .later }
def EmitLinesUptoCardSaid : Prop := Claim7.holds Tryd.pinned (.plain (OpenSpec.upto emitLinesSpec)) emitLinesUptoCard

/-- THE SECOND FORM's CARD OF 'recouplaw24.EmitReads'. -/
def emitReadsUptoCard : Claim7 := { stood := { row := emitReadsUptoRow, standIns := [], harness := (true, "b9e506b01c642f8c326101d77adb4c6fe2ad585bce73a7fa67971a3e3424b66e"), looks := true }, kinds := [], alts := [], laidByText := true, laidKinds := [.data, .data, .data], laidTests := true, laidLooks := .later }
def EmitReadsUptoCardSaid : Prop := Claim7.holds Tryd.pinned (.plain (OpenSpec.upto emitReadsSpec)) emitReadsUptoCard

/-- THE SECOND FORM's CARD OF 'recouplaw24.EmitUnlike'. -/
def emitUnlikeUptoCard : Claim7 := { stood := { row := emitUnlikeUptoRow, standIns := [], harness := (true, "b9e506b01c642f8c326101d77adb4c6fe2ad585bce73a7fa67971a3e3424b66e"), looks := true }, kinds := [], alts := [], laidByText := true, laidKinds := [.data, .data, .data], laidTests := true, laidLooks := .later }
def EmitUnlikeUptoCardSaid : Prop := Claim7.holds Tryd.pinned (.plain (OpenSpec.upto emitUnlikeSpec)) emitUnlikeUptoCard

/-- THE SECOND FORM's CARD OF 'recouplaw24.EmitWrites'. -/
def emitWritesUptoCard : Claim7 := { stood := { row := emitWritesUptoRow, standIns := [], harness := (true, "b9e506b01c642f8c326101d77adb4c6fe2ad585bce73a7fa67971a3e3424b66e"), looks := true }, kinds := [], alts := [], laidByText := true, laidKinds := [.data, .data, .data], laidTests := true, laidLooks := .later }
def EmitWritesUptoCardSaid : Prop := Claim7.holds Tryd.pinned (.plain (OpenSpec.upto emitWritesSpec)) emitWritesUptoCard
end Rows
end Go.Proofs.YtpdemfnemkmelaaDoor
