/-
  DERIVED. GIVEN WITH THE SEED: THE CARDS: each row of YtbaminbodfidmaaDoorRows.lean that lists a variable, with what it lists TIED to the program's text (the seventh form; the later family's looks); each row that meets fmt, with fmt's text TOLD by the authors' own Lean function (tested against real Go, not proved from fmt's source: count such statements apart). THE CARD IS WHAT COUNTS. Prove the row's statement (the work); the ties are given (YtbaminbodfidmaaDoorTie.lean); close each card by the builder's one call (the guide's Derived/Test/ToyasCard.lean, 'card_holds'). Laid BY PROGRAM, IN A SANDBOX (cutbox-door.mjs). By AI agents, Wed Nov 11 2026. No macro, syntax, notation, axiom, sorry.
-/
import Derived.Test.YtbaminbodfidmaaDoorRows
import GoSem.ClaimSeven
namespace Go.Proofs.YtbaminbodfidmaaDoor
namespace Rows

/-- THE TIED CARD OF 'anchoritelaw18.ReportReads'. -/
def reportReadsCard : Claim7 := { stood := { row := reportReadsRow, standIns := [], harness := (true, "dc768966a3c404de8a4a9830486b4b70cb4623bea2094b617c0ecd3aab0b2f1c"), looks := true }, kinds := [], alts := [], laidByText := true, laidKinds := [.data, .data, .data, .data, .sentinel, .sentinel, .pinned], laidTests := true, laidLooks := .later }
def ReportReadsCardSaid : Prop := Claim7.holds Tryd.pinned (.plain (OpenSpec.ofChange reportReadsSpec)) reportReadsCard

/-- THE TIED CARD OF 'anchoritelaw18.ReportBack'. -/
def reportBackCard : Claim7 := { stood := { row := reportBackRow, standIns := [], harness := (true, "dc768966a3c404de8a4a9830486b4b70cb4623bea2094b617c0ecd3aab0b2f1c"), looks := true }, kinds := [], alts := [], laidByText := true, laidKinds := [.data, .data, .data, .data, .sentinel, .sentinel, .pinned], laidTests := true, laidLooks := .later }
def ReportBackCardSaid : Prop := Claim7.holds Tryd.pinned (.plain (OpenSpec.ofChange reportBackSpec)) reportBackCard

/-- THE TIED CARD OF 'anchoritelaw18.ReportBits'. -/
def reportBitsCard : Claim7 := { stood := { row := reportBitsRow, standIns := [], harness := (true, "dc768966a3c404de8a4a9830486b4b70cb4623bea2094b617c0ecd3aab0b2f1c"), looks := true }, kinds := [], alts := [], laidByText := true, laidKinds := [.data, .data, .data, .data, .sentinel, .sentinel, .pinned], laidTests := true, laidLooks := .later }
def ReportBitsCardSaid : Prop := Claim7.holds Tryd.pinned (.plain (OpenSpec.ofChange reportBitsSpec)) reportBitsCard

/-- THE TIED CARD OF 'anchoritelaw18.ReportTells'. -/
def reportTellsCard : Claim7 := { stood := { row := reportTellsRow, standIns := [], harness := (true, "dc768966a3c404de8a4a9830486b4b70cb4623bea2094b617c0ecd3aab0b2f1c"), looks := true }, kinds := [], alts := [], laidByText := true, laidKinds := [.data, .data, .data, .data, .sentinel, .sentinel, .pinned], laidTests := true, laidLooks := .later }
def ReportTellsCardSaid : Prop := Claim7.holds Tryd.pinned (.plain (OpenSpec.ofChange reportTellsSpec)) reportTellsCard

/-- THE TIED CARD OF 'anchoritelaw18.ReportAlike'. -/
def reportAlikeCard : Claim7 := { stood := { row := reportAlikeRow, standIns := [], harness := (true, "dc768966a3c404de8a4a9830486b4b70cb4623bea2094b617c0ecd3aab0b2f1c"), looks := true }, kinds := [], alts := [], laidByText := true, laidKinds := [.data, .data, .data, .data, .sentinel, .sentinel, .pinned], laidTests := true, laidLooks := .later }
def ReportAlikeCardSaid : Prop := Claim7.holds Tryd.pinned (.plain (OpenSpec.ofChange reportAlikeSpec)) reportAlikeCard

/-- THE SECOND FORM's CARD OF 'anchoritelaw18.ReportReads'. -/
def reportReadsUptoCard : Claim7 := { stood := { row := reportReadsUptoRow, standIns := [], harness := (true, "dc768966a3c404de8a4a9830486b4b70cb4623bea2094b617c0ecd3aab0b2f1c"), looks := true }, kinds := [], alts := [], laidByText := true, laidKinds := [.data, .data, .data, .data, .sentinel, .sentinel, .pinned], laidTests := true, laidLooks := .later }
def ReportReadsUptoCardSaid : Prop := Claim7.holds Tryd.pinned (.plain (OpenSpec.upto reportReadsSpec)) reportReadsUptoCard

/-- THE SECOND FORM's CARD OF 'anchoritelaw18.ReportBack'. -/
def reportBackUptoCard : Claim7 := { stood := { row := reportBackUptoRow, standIns := [], harness := (true, "dc768966a3c404de8a4a9830486b4b70cb4623bea2094b617c0ecd3aab0b2f1c"), looks := true }, kinds := [], alts := [], laidByText := true, laidKinds := [.data, .data, .data, .data, .sentinel, .sentinel, .pinned], laidTests := true, laidLooks := .later }
def ReportBackUptoCardSaid : Prop := Claim7.holds Tryd.pinned (.plain (OpenSpec.upto reportBackSpec)) reportBackUptoCard

/-- THE SECOND FORM's CARD OF 'anchoritelaw18.ReportBits'. -/
def reportBitsUptoCard : Claim7 := { stood := { row := reportBitsUptoRow, standIns := [], harness := (true, "dc768966a3c404de8a4a9830486b4b70cb4623bea2094b617c0ecd3aab0b2f1c"), looks := true }, kinds := [], alts := [], laidByText := true, laidKinds := [.data, .data, .data, .data, .sentinel, .sentinel, .pinned], laidTests := true, laidLooks := .later }
def ReportBitsUptoCardSaid : Prop := Claim7.holds Tryd.pinned (.plain (OpenSpec.upto reportBitsSpec)) reportBitsUptoCard

/-- THE SECOND FORM's CARD OF 'anchoritelaw18.ReportTells'. -/
def reportTellsUptoCard : Claim7 := { stood := { row := reportTellsUptoRow, standIns := [], harness := (true, "dc768966a3c404de8a4a9830486b4b70cb4623bea2094b617c0ecd3aab0b2f1c"), looks := true }, kinds := [], alts := [], laidByText := true, laidKinds := [.data, .data, .data, .data, .sentinel, .sentinel, .pinned], laidTests := true, laidLooks := .later }
def ReportTellsUptoCardSaid : Prop := Claim7.holds Tryd.pinned (.plain (OpenSpec.upto reportTellsSpec)) reportTellsUptoCard

/-- THE SECOND FORM's CARD OF 'anchoritelaw18.ReportAlike'. -/
def reportAlikeUptoCard : Claim7 := { stood := { row := reportAlikeUptoRow, standIns := [], harness := (true, "dc768966a3c404de8a4a9830486b4b70cb4623bea2094b617c0ecd3aab0b2f1c"), looks := true }, kinds := [], alts := [], laidByText := true, laidKinds := [.data, .data, .data, .data, .sentinel, .sentinel, .pinned], laidTests := true, laidLooks := .later }
def ReportAlikeUptoCardSaid : Prop := Claim7.holds Tryd.pinned (.plain (OpenSpec.upto reportAlikeSpec)) reportAlikeUptoCard
end Rows
end Go.Proofs.YtbaminbodfidmaaDoor
