/-
  DERIVED. GIVEN WITH THE SEED: THE CARDS: each row of YtbkfnbnechpolaaDoorRows.lean that lists a variable, with what it lists TIED to the program's text (the seventh form; the later family's looks); each row that meets fmt, with fmt's text TOLD by the authors' own Lean function (tested against real Go, not proved from fmt's source: count such statements apart). THE CARD IS WHAT COUNTS. Prove the row's statement (the work); the ties are given (YtbkfnbnechpolaaDoorTie.lean); close each card by the builder's one call (the guide's Derived/Test/ToyasCard.lean, 'card_holds'). Laid BY PROGRAM, IN A SANDBOX (cutbox-door.mjs). By AI agents, Wed Nov 11 2026. No macro, syntax, notation, axiom, sorry.
-/
import Derived.Test.YtbkfnbnechpolaaDoorRows
import GoSem.ClaimSeven
namespace Go.Proofs.YtbkfnbnechpolaaDoor
namespace Rows

/-- THE TIED CARD OF 'anchoritelaw13.CpuReads'. -/
def cpuReadsCard : Claim7 := { stood := { row := cpuReadsRow, standIns := [], harness := (true, "29e71d8a8da9ccafa28f71737d4af864240c045c90a8fc056b710aef07ac07d7"), looks := true }, kinds := [], alts := [], laidByText := true, laidKinds := [.data, .data, .data, .data, .sentinel, .sentinel, .pinned], laidTests := true, laidLooks := .later }
def CpuReadsCardSaid : Prop := Claim7.holds Tryd.pinned (.plain (OpenSpec.ofChange cpuReadsSpec)) cpuReadsCard

/-- THE TIED CARD OF 'anchoritelaw13.CpuDoes'. -/
def cpuDoesCard : Claim7 := { stood := { row := cpuDoesRow, standIns := [], harness := (true, "29e71d8a8da9ccafa28f71737d4af864240c045c90a8fc056b710aef07ac07d7"), looks := true }, kinds := [], alts := [], laidByText := true, laidKinds := [.data, .data, .data, .data, .sentinel, .sentinel, .pinned], laidTests := true, laidLooks := .later }
def CpuDoesCardSaid : Prop := Claim7.holds Tryd.pinned (.plain (OpenSpec.ofChange cpuDoesSpec)) cpuDoesCard

/-- THE TIED CARD OF 'anchoritelaw13.CpuWords'. -/
def cpuWordsCard : Claim7 := { stood := { row := cpuWordsRow, standIns := [], harness := (true, "29e71d8a8da9ccafa28f71737d4af864240c045c90a8fc056b710aef07ac07d7"), looks := true }, kinds := [], alts := [], laidByText := true, laidKinds := [.data, .data, .data, .data, .sentinel, .sentinel, .pinned], laidTests := true, laidLooks := .later }
def CpuWordsCardSaid : Prop := Claim7.holds Tryd.pinned (.plain (OpenSpec.ofChange cpuWordsSpec)) cpuWordsCard

/-- THE TIED CARD OF 'anchoritelaw13.CpuGives'. -/
def cpuGivesCard : Claim7 := { stood := { row := cpuGivesRow, standIns := [], harness := (true, "29e71d8a8da9ccafa28f71737d4af864240c045c90a8fc056b710aef07ac07d7"), looks := true }, kinds := [], alts := [], laidByText := true, laidKinds := [.data, .data, .data, .data, .sentinel, .sentinel, .pinned], laidTests := true, laidLooks := .later }
def CpuGivesCardSaid : Prop := Claim7.holds Tryd.pinned (.plain (OpenSpec.ofChange cpuGivesSpec)) cpuGivesCard

/-- THE TIED CARD OF 'anchoritelaw13.CpuBack'. -/
def cpuBackCard : Claim7 := { stood := { row := cpuBackRow, standIns := [], harness := (true, "29e71d8a8da9ccafa28f71737d4af864240c045c90a8fc056b710aef07ac07d7"), looks := true }, kinds := [], alts := [], laidByText := true, laidKinds := [.data, .data, .data, .data, .sentinel, .sentinel, .pinned], laidTests := true, laidLooks := .later }
def CpuBackCardSaid : Prop := Claim7.holds Tryd.pinned (.plain (OpenSpec.ofChange cpuBackSpec)) cpuBackCard

/-- THE TIED CARD OF 'anchoritelaw13.CpuLines'. -/
def cpuLinesCard : Claim7 := { stood := { row := cpuLinesRow, standIns := [], harness := (true, "29e71d8a8da9ccafa28f71737d4af864240c045c90a8fc056b710aef07ac07d7"), looks := true }, kinds := [], alts := [], laidByText := true, laidKinds := [.data, .data, .data, .data, .sentinel, .sentinel, .pinned], laidTests := true, laidLooks := .later }
def CpuLinesCardSaid : Prop := Claim7.holds Tryd.pinned (.plain (OpenSpec.ofChange cpuLinesSpec)) cpuLinesCard

/-- THE SECOND FORM's CARD OF 'anchoritelaw13.CpuReads'. -/
def cpuReadsUptoCard : Claim7 := { stood := { row := cpuReadsUptoRow, standIns := [], harness := (true, "29e71d8a8da9ccafa28f71737d4af864240c045c90a8fc056b710aef07ac07d7"), looks := true }, kinds := [], alts := [], laidByText := true, laidKinds := [.data, .data, .data, .data, .sentinel, .sentinel, .pinned], laidTests := true, laidLooks := .later }
def CpuReadsUptoCardSaid : Prop := Claim7.holds Tryd.pinned (.plain (OpenSpec.upto cpuReadsSpec)) cpuReadsUptoCard

/-- THE SECOND FORM's CARD OF 'anchoritelaw13.CpuDoes'. -/
def cpuDoesUptoCard : Claim7 := { stood := { row := cpuDoesUptoRow, standIns := [], harness := (true, "29e71d8a8da9ccafa28f71737d4af864240c045c90a8fc056b710aef07ac07d7"), looks := true }, kinds := [], alts := [], laidByText := true, laidKinds := [.data, .data, .data, .data, .sentinel, .sentinel, .pinned], laidTests := true, laidLooks := .later }
def CpuDoesUptoCardSaid : Prop := Claim7.holds Tryd.pinned (.plain (OpenSpec.upto cpuDoesSpec)) cpuDoesUptoCard

/-- THE SECOND FORM's CARD OF 'anchoritelaw13.CpuWords'. -/
def cpuWordsUptoCard : Claim7 := { stood := { row := cpuWordsUptoRow, standIns := [], harness := (true, "29e71d8a8da9ccafa28f71737d4af864240c045c90a8fc056b710aef07ac07d7"), looks := true }, kinds := [], alts := [], laidByText := true, laidKinds := [.data, .data, .data, .data, .sentinel, .sentinel, .pinned], laidTests := true, laidLooks := .later }
def CpuWordsUptoCardSaid : Prop := Claim7.holds Tryd.pinned (.plain (OpenSpec.upto cpuWordsSpec)) cpuWordsUptoCard

/-- THE SECOND FORM's CARD OF 'anchoritelaw13.CpuGives'. -/
def cpuGivesUptoCard : Claim7 := { stood := { row := cpuGivesUptoRow, standIns := [], harness := (true, "29e71d8a8da9ccafa28f71737d4af864240c045c90a8fc056b710aef07ac07d7"), looks := true }, kinds := [], alts := [], laidByText := true, laidKinds := [.data, .data, .data, .data, .sentinel, .sentinel, .pinned], laidTests := true, laidLooks := .later }
def CpuGivesUptoCardSaid : Prop := Claim7.holds Tryd.pinned (.plain (OpenSpec.upto cpuGivesSpec)) cpuGivesUptoCard

/-- THE SECOND FORM's CARD OF 'anchoritelaw13.CpuBack'. -/
def cpuBackUptoCard : Claim7 := { stood := { row := cpuBackUptoRow, standIns := [], harness := (true, "29e71d8a8da9ccafa28f71737d4af864240c045c90a8fc056b710aef07ac07d7"), looks := true }, kinds := [], alts := [], laidByText := true, laidKinds := [.data, .data, .data, .data, .sentinel, .sentinel, .pinned], laidTests := true, laidLooks := .later }
def CpuBackUptoCardSaid : Prop := Claim7.holds Tryd.pinned (.plain (OpenSpec.upto cpuBackSpec)) cpuBackUptoCard

/-- THE SECOND FORM's CARD OF 'anchoritelaw13.CpuLines'. -/
def cpuLinesUptoCard : Claim7 := { stood := { row := cpuLinesUptoRow, standIns := [], harness := (true, "29e71d8a8da9ccafa28f71737d4af864240c045c90a8fc056b710aef07ac07d7"), looks := true }, kinds := [], alts := [], laidByText := true, laidKinds := [.data, .data, .data, .data, .sentinel, .sentinel, .pinned], laidTests := true, laidLooks := .later }
def CpuLinesUptoCardSaid : Prop := Claim7.holds Tryd.pinned (.plain (OpenSpec.upto cpuLinesSpec)) cpuLinesUptoCard
end Rows
end Go.Proofs.YtbkfnbnechpolaaDoor
