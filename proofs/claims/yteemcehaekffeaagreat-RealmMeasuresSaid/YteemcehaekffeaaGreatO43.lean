/- The map of counts. -/
import Derived.Test.YteemcehaekffeaaGreatO42
import Derived.Test.YteemcehaekffeaaGreatAmMapW
set_option linter.unusedVariables false
set_option linter.unusedSimpArgs false
namespace Go.Am
open Go Go.Proofs
set_option maxHeartbeats 8000000
set_option maxRecDepth 100000
section
attribute [local irreducible] aC aL thenQ blockQ scopeQ ALoop AWp
abbrev Cn:=List (Nat × Nat × Nat)
def cnE (cn:Cn):Ents:=cn.map fun p=>(.int .u64 (p.1:Nat),.int .u64 (p.2.1:Nat),p.2.2)
def cnt:Cn→Nat→Nat
 |[],_=>0
 |p::r,i=>if p.1=i then p.2.1 else cnt r i
end
end Go.Am
