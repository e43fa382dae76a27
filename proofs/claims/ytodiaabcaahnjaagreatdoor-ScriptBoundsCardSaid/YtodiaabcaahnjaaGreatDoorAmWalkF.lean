/- Walk rules: a range over a function that ends by itself: its box is not looked at any more. -/
import Derived.Test.YtodiaabcaahnjaaGreatDoorAmWalkE
import Derived.Test.YtodiaabcaahnjaaGreatDoorAmYield
set_option linter.unusedVariables false
set_option linter.unusedSimpArgs false
namespace Go.Am
open Go
section
variable {C:Cx} {N:Nat}
theorem aC_rangeFnA {p:FuncId→Bool} {q:Nat→Option UL} {f:Operand} {ps:Array Nat} {asg body:Code} {Q:Post} {fr:Fr} {S:St} {g:FuncId} {az bs args:List AVal} {r:AVal} {n:Nat} (A B:St)
  (hf:aEval (C.wp p q) fr.get f = .fn (.func g) az bs) (ha:az++[.yld S.length]++bs=args) (hl:A.length=S.length)
  (hc:ACall C g args (S++[.loop fr N ps.toList asg body .ready none 0]) r (A ++ .loop fr N ps.toList asg body .ready none 0::B)) (hb:belF n fr=true)
  (hq:∀ L,belB n L=true→Q .normal fr (A++L::B)):aC (C.wp p q) N (.rangeFn f ps asg body) Q fr S:=by
 refine aC_rangeFnB (tag:=0) hf ha hc (by rw [← hl];simp;exact ⟨rfl,rfl,rfl,rfl,rfl,rfl,rfl,rfl⟩) (by intro h;cases h) ?_
 have e:(A++ABox.loop fr N ps.toList asg body .ready none 0::B).set S.length (.loop fr N ps.toList asg body .exhausted none 0)=A ++ .loop fr N ps.toList asg body .exhausted none 0::B:=by rw [← hl];simp
 rw [e]
 exact hq _ hb
end
end Go.Am
