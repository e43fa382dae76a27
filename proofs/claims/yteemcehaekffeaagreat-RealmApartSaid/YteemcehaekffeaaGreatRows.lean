/-
  No cell of these rows narrows 'for every input' (looked for: loops, veiled, ifaces, maps, wideKeys, modest, calm, conditions, laid).
  DERIVED. THE GIVEN ROWS OF THIS SEAT. 3 by the template 'for every input the law returns true; each argument reads behind the call as it read before'; 0 by the template 'total and deterministic' (their statements: YteemcehaekffeaaGreatTotals.lean).
  GIVEN WITH THE SEED: the statements are not yours to turn. If you find one false, say at which input.
  Laid BY PROGRAM, IN A SANDBOX (cutbox-rows.mjs): the forced cells as the released guide's own fill.sh prints them over the translation a280704ed4553aa9… (all of the seat's roots in one cut). By AI agents, Wed Nov 11 2026. No macro, syntax, notation, axiom, sorry.
-/
import Derived.Test.YteemcehaekffeaaGreatChecked
import GoSem.Claim
import GoSem.ClaimJoined
import GoSem.ClaimMapViews
import Derived.JoinedTies
import Derived.KernelRfl
namespace Go.Proofs.YteemcehaekffeaaGreat
/- THE CELL 'sum', in the pinned program and in every row, IS THE sha256 OF THE DUMP (.gsa) THAT YteemcehaekffeaaGreatProg.lean LOADS. Nothing in Lean hashes anything: it is a label: what it is worth is what the hold of that sum in a sandbox is worth. -/
noncomputable def Tryz.pinned : Pinned := { name := "yteemcehaekffeaagreat", sum := "a280704ed4553aa9386fb53996c12f8824ec63f277f525cb5aa3beb25e2c672e", checked := Tryz.checked }
namespace Rows
def none {H : Type} : Left H := { results := [], args := [] }

/-- 'anchoritelaw11.RealmMeasures': WHATEVER THE INPUT: true; the input reads as it did. -/
def realmMeasuresSpec : ChangeSpec := { name := "realmMeasures", fn := fun _ => fun
  | [d] => { results := [.lit (.bool true)], args := [d] }
  | _ => none }
def realmMeasuresRow : OpenClaim := { program := "yteemcehaekffeaagreat", sum := "a280704ed4553aa9386fb53996c12f8824ec63f277f525cb5aa3beb25e2c672e", func := "anchorite/anchoritelaw11.RealmMeasures", spec := "realmMeasures", inPlace := ["math/bits.Add64"], unfollowed := true, recurses := true, plainKeys := false, apart := false }
def RealmMeasuresSaid : Prop := realmMeasuresRow.holds Tryz.pinned (OpenSpec.ofChange realmMeasuresSpec)

/-- ITS FALSE NEIGHBOUR: 'it returns false'. Refute it at one input. -/
def realmMeasuresWrong : ChangeSpec := { name := "realmMeasures", fn := fun _ => fun
  | [d] => { results := [.lit (.bool false)], args := [d] }
  | _ => none }
def RealmMeasuresWrongFalsely : Prop := realmMeasuresRow.holds Tryz.pinned (OpenSpec.ofChange realmMeasuresWrong)

/-- 'anchoritelaw11.RealmCounts': WHATEVER THE INPUT: true; the input reads as it did. -/
def realmCountsSpec : ChangeSpec := { name := "realmCounts", fn := fun _ => fun
  | [d] => { results := [.lit (.bool true)], args := [d] }
  | _ => none }
def realmCountsRow : OpenClaim := { program := "yteemcehaekffeaagreat", sum := "a280704ed4553aa9386fb53996c12f8824ec63f277f525cb5aa3beb25e2c672e", func := "anchorite/anchoritelaw11.RealmCounts", spec := "realmCounts", inPlace := ["math/bits.Add64"], unfollowed := true, recurses := true, plainKeys := false, apart := false }
def RealmCountsSaid : Prop := realmCountsRow.holds Tryz.pinned (OpenSpec.ofChange realmCountsSpec)

/-- ITS FALSE NEIGHBOUR: 'it returns false'. Refute it at one input. -/
def realmCountsWrong : ChangeSpec := { name := "realmCounts", fn := fun _ => fun
  | [d] => { results := [.lit (.bool false)], args := [d] }
  | _ => none }
def RealmCountsWrongFalsely : Prop := realmCountsRow.holds Tryz.pinned (OpenSpec.ofChange realmCountsWrong)

/-- 'anchoritelaw11.RealmApart': WHATEVER THE INPUT: true; the input reads as it did. -/
def realmApartSpec : ChangeSpec := { name := "realmApart", fn := fun _ => fun
  | [d1, d2] => { results := [.lit (.bool true)], args := [d1, d2] }
  | _ => none }
def realmApartRow : OpenClaim := { program := "yteemcehaekffeaagreat", sum := "a280704ed4553aa9386fb53996c12f8824ec63f277f525cb5aa3beb25e2c672e", func := "anchorite/anchoritelaw11.RealmApart", spec := "realmApart", inPlace := ["math/bits.Add64"], unfollowed := true, recurses := true, plainKeys := false, apart := false }
def RealmApartSaid : Prop := realmApartRow.holds Tryz.pinned (OpenSpec.ofChange realmApartSpec)

/-- ITS FALSE NEIGHBOUR: 'it returns false'. Refute it at one input. -/
def realmApartWrong : ChangeSpec := { name := "realmApart", fn := fun _ => fun
  | [d1, d2] => { results := [.lit (.bool false)], args := [d1, d2] }
  | _ => none }
def RealmApartWrongFalsely : Prop := realmApartRow.holds Tryz.pinned (OpenSpec.ofChange realmApartWrong)

/- THE SECOND FORM. 'bulk': how many values and letters a reading holds, each counted each time it is reached (what is shared counts as often as it is met; a slice's spare places count too). A statement '..UptoSaid' is the law's where the arguments, and the package variables that the reading takes, are together of bulk at most 1048576: NARROWER than '..Said'. Prove '..Said' where nothing that the law and all that it calls make is longer than what came in: it says more and counts as full. Else prove '..UptoSaid'. A law counts once. -/
mutual
def uptoBulk {H : Type} : DataW H → Nat
  | .lit (.string bytes) => bytes.length + 1
  | .lit _ => 1
  | .nil => 1
  | .ptr d => uptoBulk d + 1
  | .slice elems spare => uptoBulkAll elems + uptoBulkAll spare + 1
  | .agg parts => uptoBulkAll parts + 1
  | .iface _ d => uptoBulk d + 1
  | .map entries => uptoBulkEntries entries + 1
  | .held _ => 1
def uptoBulkAll {H : Type} : List (DataW H) → Nat
  | [] => 0
  | d :: r => uptoBulk d + uptoBulkAll r
def uptoBulkEntries {H : Type} : List (Lit × DataW H) → Nat
  | [] => 0
  | x :: r => uptoBulkEntry x + uptoBulkEntries r
def uptoBulkEntry {H : Type} : Lit × DataW H → Nat
  | (.string bytes, d) => bytes.length + uptoBulk d + 1
  | (_, d) => uptoBulk d + 1
 end
def uptoSmall : (H : Type) → List (DataW H) → Bool := fun _ ds => decide (uptoBulkAll ds ≤ 1048576)
def OpenSpec.upto (s : _root_.Go.ChangeSpec) : _root_.Go.OpenSpec := { _root_.Go.OpenSpec.ofChange s with cond := some uptoSmall }

/-- 'anchoritelaw11.RealmMeasures', WHERE WHAT IT READS IS OF BULK AT MOST 1048576: true; the input reads as it did. -/
def realmMeasuresUptoRow : OpenClaim := { program := "yteemcehaekffeaagreat", sum := "a280704ed4553aa9386fb53996c12f8824ec63f277f525cb5aa3beb25e2c672e", func := "anchorite/anchoritelaw11.RealmMeasures", spec := "realmMeasures", inPlace := ["math/bits.Add64"], unfollowed := true, recurses := true, plainKeys := false, apart := false, narrowed := true }
def RealmMeasuresUptoSaid : Prop := realmMeasuresUptoRow.holds Tryz.pinned (OpenSpec.upto realmMeasuresSpec)

/-- 'anchoritelaw11.RealmCounts', WHERE WHAT IT READS IS OF BULK AT MOST 1048576: true; the input reads as it did. -/
def realmCountsUptoRow : OpenClaim := { program := "yteemcehaekffeaagreat", sum := "a280704ed4553aa9386fb53996c12f8824ec63f277f525cb5aa3beb25e2c672e", func := "anchorite/anchoritelaw11.RealmCounts", spec := "realmCounts", inPlace := ["math/bits.Add64"], unfollowed := true, recurses := true, plainKeys := false, apart := false, narrowed := true }
def RealmCountsUptoSaid : Prop := realmCountsUptoRow.holds Tryz.pinned (OpenSpec.upto realmCountsSpec)

/-- 'anchoritelaw11.RealmApart', WHERE WHAT IT READS IS OF BULK AT MOST 1048576: true; the input reads as it did. -/
def realmApartUptoRow : OpenClaim := { program := "yteemcehaekffeaagreat", sum := "a280704ed4553aa9386fb53996c12f8824ec63f277f525cb5aa3beb25e2c672e", func := "anchorite/anchoritelaw11.RealmApart", spec := "realmApart", inPlace := ["math/bits.Add64"], unfollowed := true, recurses := true, plainKeys := false, apart := false, narrowed := true }
def RealmApartUptoSaid : Prop := realmApartUptoRow.holds Tryz.pinned (OpenSpec.upto realmApartSpec)

end Rows
end Go.Proofs.YteemcehaekffeaaGreat
