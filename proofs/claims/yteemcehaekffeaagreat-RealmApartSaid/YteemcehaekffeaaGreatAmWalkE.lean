/- Walk rules: a range over a function, its rounds, the call of the loop's body. -/
import Derived.Test.YteemcehaekffeaaGreatAmFreshZ
import Derived.Test.YteemcehaekffeaaGreatAmYield
set_option linter.unusedVariables false
set_option linter.unusedSimpArgs false
namespace Go.Am
open Go
section
variable {C:Cx} {N:Nat}
theorem aL_yield {p:FuncId→Bool} {q:Nat→Option UL} {d:Option Nat} {gd:Option (Option Nat × Bool)} {x:Operand} {xs:Array Operand} {ts:Array TypeId} {rest:List LO} {Q:Fr→St→Prop} {fr:Fr} {S S':St} {i:Nat} {args cargs:List AVal} {r:AVal} {fr':Fr}
  (hc:AYield C i cargs S r S') (hg:wantL gd fr=some true) (hx:aEval (C.wp p q) fr.get x = .yld i) (ha:xs.toList.map (aEval (C.wp p q) fr.get)=args) (he:cargs=args) (hf:fr.put d r=fr') (k:aL (C.wp p q) none rest Q fr' S') :
  aL (C.wp p q) none (⟨d,.call ⟨.value x,xs,ts⟩,gd⟩::rest) Q fr S:=by
 subst hf ha he
 simp only [aL,hg,if_true,aOpK,hx]
 exact .inr (.inr ⟨r,S',hc,True.intro,k⟩)
theorem aC_rangeFnB {p:FuncId→Bool} {q:Nat→Option UL} {f:Operand} {ps:Array Nat} {asg body:Code} {Q:Post} {fr:Fr} {S:St} {g:FuncId} {az bs args:List AVal} {tag:Nat} {r:AVal} {S2:St} {fr':Fr} {N':Nat} {ps':List Nat} {asg' body':Code} {st:LoopState} {pend:Option Code} {tag':Nat}
  (hf:aEval (C.wp p q) fr.get f = .fn (.func g) az bs) (ha:az++[.yld S.length]++bs=args) (hc:ACall C g args (S++[.loop fr N ps.toList asg body .ready none tag]) r S2)
  (h2:S2[S.length]? = some (.loop fr' N' ps' asg' body' st pend tag')) (hst:st ≠ .busy) (hq:pendQ Q pend fr (S2.set S.length (.loop fr' N' ps' asg' body' .exhausted pend tag'))):aC (C.wp p q) N (.rangeFn f ps asg body) Q fr S:=by
 unfold aC
 simp only [hf]
 exact ⟨tag,r,S2,fr',N',ps',asg',body',st,pend,tag',by rw [ha];exact ⟨hc.callable,hc.ok⟩,h2,hst,hq⟩
end
end Go.Am
