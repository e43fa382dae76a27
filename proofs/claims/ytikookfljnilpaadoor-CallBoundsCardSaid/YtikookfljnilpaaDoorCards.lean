/-
  DERIVED. GIVEN WITH THE SEED: THE CARDS: each row of YtikookfljnilpaaDoorRows.lean that lists a variable, with what it lists TIED to the program's text (the seventh form; the later family's looks); each row that meets fmt, with fmt's text TOLD by the authors' own Lean function (tested against real Go, not proved from fmt's source: count such statements apart). THE CARD IS WHAT COUNTS. Prove the row's statement (the work); the ties are given (YtikookfljnilpaaDoorTie.lean); close each card by the builder's one call (the guide's Derived/Test/ToyasCard.lean, 'card_holds'). Laid BY PROGRAM, IN A SANDBOX (cutbox-door.mjs). By AI agents, Wed Nov 11 2026. No macro, syntax, notation, axiom, sorry.
-/
import Derived.Test.YtikookfljnilpaaDoorRows
import GoSem.ClaimSeven
namespace Go.Proofs.YtikookfljnilpaaDoor
namespace Rows

/-- THE TIED CARD OF 'anchoritelaw21.CallOps'. -/
def callOpsCard : Claim7 := { stood := { row := callOpsRow, standIns := [], harness := (true, "da371080cc9fb95c09af924427a77e2ec6ad1145aafd1afe23dddba95b38f15d"), looks := true }, kinds := [], alts := [], laidByText := true, laidKinds := [.data, .data, .data, .data, .sentinel, .sentinel, .pinned], laidTests := true, laidLooks := .later }
def CallOpsCardSaid : Prop := Claim7.holds Tryd.pinned (.plain (OpenSpec.ofChange callOpsSpec)) callOpsCard

/-- THE TIED CARD OF 'anchoritelaw21.CallTells'. -/
def callTellsCard : Claim7 := { stood := { row := callTellsRow, standIns := [], harness := (true, "da371080cc9fb95c09af924427a77e2ec6ad1145aafd1afe23dddba95b38f15d"), looks := true }, kinds := [], alts := [], laidByText := true, laidKinds := [.data, .data, .data, .data, .sentinel, .sentinel, .pinned], laidTests := true, laidLooks := .later }
def CallTellsCardSaid : Prop := Claim7.holds Tryd.pinned (.plain (OpenSpec.ofChange callTellsSpec)) callTellsCard

/-- THE TIED CARD OF 'anchoritelaw21.CallReads'. -/
def callReadsCard : Claim7 := { stood := { row := callReadsRow, standIns := [], harness := (true, "da371080cc9fb95c09af924427a77e2ec6ad1145aafd1afe23dddba95b38f15d"), looks := true }, kinds := [], alts := [], laidByText := true, laidKinds := [.data, .data, .data, .data, .sentinel, .sentinel, .pinned], laidTests := true, laidLooks := .later }
def CallReadsCardSaid : Prop := Claim7.holds Tryd.pinned (.plain (OpenSpec.ofChange callReadsSpec)) callReadsCard

/-- THE TIED CARD OF 'anchoritelaw21.CallLines'. -/
def callLinesCard : Claim7 := { stood := { row := callLinesRow, standIns := [], harness := (true, "da371080cc9fb95c09af924427a77e2ec6ad1145aafd1afe23dddba95b38f15d"), looks := true }, kinds := [], alts := [], laidByText := true, laidKinds := [.data, .data, .data, .data, .sentinel, .sentinel, .pinned], laidTests := true, laidLooks := .later }
def CallLinesCardSaid : Prop := Claim7.holds Tryd.pinned (.plain (OpenSpec.ofChange callLinesSpec)) callLinesCard

/-- THE TIED CARD OF 'anchoritelaw21.CallLists'. -/
def callListsCard : Claim7 := { stood := { row := callListsRow, standIns := [], harness := (true, "da371080cc9fb95c09af924427a77e2ec6ad1145aafd1afe23dddba95b38f15d"), looks := true }, kinds := [], alts := [], laidByText := true, laidKinds := [.data, .data, .data, .data, .sentinel, .sentinel, .pinned], laidTests := true, laidLooks := .later }
def CallListsCardSaid : Prop := Claim7.holds Tryd.pinned (.plain (OpenSpec.ofChange callListsSpec)) callListsCard

/-- THE TIED CARD OF 'anchoritelaw21.CallBounds'. -/
def callBoundsCard : Claim7 := { stood := { row := callBoundsRow, standIns := [], harness := (true, "da371080cc9fb95c09af924427a77e2ec6ad1145aafd1afe23dddba95b38f15d"), looks := true }, kinds := [], alts := [], laidByText := true, laidKinds := [.data, .data, .data, .data, .sentinel, .sentinel, .pinned], laidTests := true, laidLooks := .later }
def CallBoundsCardSaid : Prop := Claim7.holds Tryd.pinned (.plain (OpenSpec.ofChange callBoundsSpec)) callBoundsCard

/-- THE TIED CARD OF 'anchoritelaw21.CallBack'. -/
def callBackCard : Claim7 := { stood := { row := callBackRow, standIns := [], harness := (true, "da371080cc9fb95c09af924427a77e2ec6ad1145aafd1afe23dddba95b38f15d"), looks := true }, kinds := [], alts := [], laidByText := true, laidKinds := [.data, .data, .data, .data, .sentinel, .sentinel, .pinned], laidTests := true, laidLooks := .later }
def CallBackCardSaid : Prop := Claim7.holds Tryd.pinned (.plain (OpenSpec.ofChange callBackSpec)) callBackCard

/-- THE SECOND FORM's CARD OF 'anchoritelaw21.CallOps'. -/
def callOpsUptoCard : Claim7 := { stood := { row := callOpsUptoRow, standIns := [], harness := (true, "da371080cc9fb95c09af924427a77e2ec6ad1145aafd1afe23dddba95b38f15d"), looks := true }, kinds := [], alts := [], laidByText := true, laidKinds := [.data, .data, .data, .data, .sentinel, .sentinel, .pinned], laidTests := true, laidLooks := .later }
def CallOpsUptoCardSaid : Prop := Claim7.holds Tryd.pinned (.plain (OpenSpec.upto callOpsSpec)) callOpsUptoCard

/-- THE SECOND FORM's CARD OF 'anchoritelaw21.CallTells'. -/
def callTellsUptoCard : Claim7 := { stood := { row := callTellsUptoRow, standIns := [], harness := (true, "da371080cc9fb95c09af924427a77e2ec6ad1145aafd1afe23dddba95b38f15d"), looks := true }, kinds := [], alts := [], laidByText := true, laidKinds := [.data, .data, .data, .data, .sentinel, .sentinel, .pinned], laidTests := true, laidLooks := .later }
def CallTellsUptoCardSaid : Prop := Claim7.holds Tryd.pinned (.plain (OpenSpec.upto callTellsSpec)) callTellsUptoCard

/-- THE SECOND FORM's CARD OF 'anchoritelaw21.CallReads'. -/
def callReadsUptoCard : Claim7 := { stood := { row := callReadsUptoRow, standIns := [], harness := (true, "da371080cc9fb95c09af924427a77e2ec6ad1145aafd1afe23dddba95b38f15d"), looks := true }, kinds := [], alts := [], laidByText := true, laidKinds := [.data, .data, .data, .data, .sentinel, .sentinel, .pinned], laidTests := true, laidLooks := .later }
def CallReadsUptoCardSaid : Prop := Claim7.holds Tryd.pinned (.plain (OpenSpec.upto callReadsSpec)) callReadsUptoCard

/-- THE SECOND FORM's CARD OF 'anchoritelaw21.CallLines'. -/
def callLinesUptoCard : Claim7 := { stood := { row := callLinesUptoRow, standIns := [], harness := (true, "da371080cc9fb95c09af924427a77e2ec6ad1145aafd1afe23dddba95b38f15d"), looks := true }, kinds := [], alts := [], laidByText := true, laidKinds := [.data, .data, .data, .data, .sentinel, .sentinel, .pinned], laidTests := true, laidLooks := .later }
def CallLinesUptoCardSaid : Prop := Claim7.holds Tryd.pinned (.plain (OpenSpec.upto callLinesSpec)) callLinesUptoCard

/-- THE SECOND FORM's CARD OF 'anchoritelaw21.CallLists'. -/
def callListsUptoCard : Claim7 := { stood := { row := callListsUptoRow, standIns := [], harness := (true, "da371080cc9fb95c09af924427a77e2ec6ad1145aafd1afe23dddba95b38f15d"), looks := true }, kinds := [], alts := [], laidByText := true, laidKinds := [.data, .data, .data, .data, .sentinel, .sentinel, .pinned], laidTests := true, laidLooks := .later }
def CallListsUptoCardSaid : Prop := Claim7.holds Tryd.pinned (.plain (OpenSpec.upto callListsSpec)) callListsUptoCard

/-- THE SECOND FORM's CARD OF 'anchoritelaw21.CallBounds'. -/
def callBoundsUptoCard : Claim7 := { stood := { row := callBoundsUptoRow, standIns := [], harness := (true, "da371080cc9fb95c09af924427a77e2ec6ad1145aafd1afe23dddba95b38f15d"), looks := true }, kinds := [], alts := [], laidByText := true, laidKinds := [.data, .data, .data, .data, .sentinel, .sentinel, .pinned], laidTests := true, laidLooks := .later }
def CallBoundsUptoCardSaid : Prop := Claim7.holds Tryd.pinned (.plain (OpenSpec.upto callBoundsSpec)) callBoundsUptoCard

/-- THE SECOND FORM's CARD OF 'anchoritelaw21.CallBack'. -/
def callBackUptoCard : Claim7 := { stood := { row := callBackUptoRow, standIns := [], harness := (true, "da371080cc9fb95c09af924427a77e2ec6ad1145aafd1afe23dddba95b38f15d"), looks := true }, kinds := [], alts := [], laidByText := true, laidKinds := [.data, .data, .data, .data, .sentinel, .sentinel, .pinned], laidTests := true, laidLooks := .later }
def CallBackUptoCardSaid : Prop := Claim7.holds Tryd.pinned (.plain (OpenSpec.upto callBackSpec)) callBackUptoCard
end Rows
end Go.Proofs.YtikookfljnilpaaDoor
