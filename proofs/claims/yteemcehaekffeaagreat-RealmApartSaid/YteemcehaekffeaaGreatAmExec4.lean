/- The abstract layer, reckoned by the kernel: functions. -/
import Derived.Test.YteemcehaekffeaaGreatAmExec
import Derived.Test.YteemcehaekffeaaGreatAmAny
import Derived.LoopNIn
set_option linter.unusedVariables false
set_option linter.unusedSimpArgs false
namespace Go.Am
open Go
noncomputable section
structure FE where
 body:LC
 N:Nat
 rs:List ResultVar
 q:Nat→Option UL
 plain:Bool
abbrev Runner:=(Nat→Option UL)→Nat→Nat→LC→Fr→St→Option (XE × Fr × St)
structure TabOk (C:Cx) (tab:FuncId→Option FE) (ext:FuncId→List AVal→Option AVal):Prop where
 fn:∀ f e,tab f=some e→FnOk C f e.body e.N e.rs∧BodyOk C f C.pc e.q
 ext:∀ f args r,ext f args=some r→AExt C f args r
 glob:GClosed C
 ok:C.Ok
section
variable {C:Cx} {tab:FuncId→Option FE} {ext:FuncId→List AVal→Option AVal} {R:Runner}
end
end
end Go.Am
