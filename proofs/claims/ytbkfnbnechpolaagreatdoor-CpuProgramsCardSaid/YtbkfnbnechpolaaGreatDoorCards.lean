/-
  DERIVED. GIVEN WITH THE SEED: THE CARDS: each row of YtbkfnbnechpolaaGreatDoorRows.lean that lists a variable, with what it lists TIED to the program's text (the seventh form; the later family's looks); each row that meets fmt, with fmt's text TOLD by the authors' own Lean function (tested against real Go, not proved from fmt's source: count such statements apart). THE CARD IS WHAT COUNTS. Prove the row's statement (the work); the ties are given (YtbkfnbnechpolaaGreatDoorTie.lean); close each card by the builder's one call (the guide's Derived/Test/ToyasCard.lean, 'card_holds'). Laid BY PROGRAM, IN A SANDBOX (cutbox-door.mjs). By AI agents, Wed Nov 11 2026. No macro, syntax, notation, axiom, sorry.
-/
import Derived.Test.YtbkfnbnechpolaaGreatDoorRows
import GoSem.ClaimSeven
namespace Go.Proofs.YtbkfnbnechpolaaGreatDoor
namespace Rows

/-- THE TIED CARD OF 'anchoritelaw13.CpuPrograms'. -/
def cpuProgramsCard : Claim7 := { stood := { row := cpuProgramsRow, standIns := [], harness := (true, "22cd7ee2ea785f111a571d63e55d23e7ddca636ef271644c0c7d8f75e856e99e"), looks := true }, kinds := [], alts := [], laidByText := true, laidKinds := [.data, .data, .data, .data, .sentinel, .sentinel, .pinned], laidTests := true, laidLooks := .later }
def CpuProgramsCardSaid : Prop := Claim7.holds Tryz.pinned (.plain (OpenSpec.ofChange cpuProgramsSpec)) cpuProgramsCard

/-- THE SECOND FORM's CARD OF 'anchoritelaw13.CpuPrograms'. -/
def cpuProgramsUptoCard : Claim7 := { stood := { row := cpuProgramsUptoRow, standIns := [], harness := (true, "22cd7ee2ea785f111a571d63e55d23e7ddca636ef271644c0c7d8f75e856e99e"), looks := true }, kinds := [], alts := [], laidByText := true, laidKinds := [.data, .data, .data, .data, .sentinel, .sentinel, .pinned], laidTests := true, laidLooks := .later }
def CpuProgramsUptoCardSaid : Prop := Claim7.holds Tryz.pinned (.plain (OpenSpec.upto cpuProgramsSpec)) cpuProgramsUptoCard
end Rows
end Go.Proofs.YtbkfnbnechpolaaGreatDoor
