/- The abstract layer: functions that hand out a map of their own, its entries closures and their like: what they have captured is not written any more. -/
import Derived.Test.YteemcehaekffeaaGreatAmFreshZ
set_option linter.unusedVariables false
set_option linter.unusedSimpArgs false
namespace Go.Am
open Go
noncomputable section
theorem xACallS {C:Cx} {tab:FuncId→Option FE} {ext:FuncId→List AVal→Option AVal} (hT:TabOk C tab ext) (n:Nat) {f:FuncId} {e:FE} (he:tab f=some e) {args:List AVal} (hlen:args.length≤e.N) {S T:St} {v:AVal}
  (h:(match xRun C tab ext n e.q e.N f e.body (frame0 args) S with
   |some (x,fr,U)=>match xRes C fr U e.rs with
    |some w=>some (isFin x,w,U)
    |none=>none
   |none=>none)=some (true,v,T)):ACall C f args S v T:=by
 split at h
 ·next x fr U hx =>
  split at h
  ·next w hw =>
   injection h with h
   injection h with h1 h2
   injection h2 with h2 h3
   subst h2 h3
   exact (xRun_both hT n).1.acall hT he hlen hx h1 hw
  ·cases h
 ·cases h
end
end Go.Am
