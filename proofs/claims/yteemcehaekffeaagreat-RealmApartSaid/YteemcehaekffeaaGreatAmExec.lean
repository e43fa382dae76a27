/- The abstract layer, reckoned by the kernel: what is to be asked of one operation, as a truth value. -/
import Derived.Test.YteemcehaekffeaaGreatAmYield
set_option linter.unusedVariables false
set_option linter.unusedSimpArgs false
section
namespace Go.Am
open Go
noncomputable section
def tagEq:Tag→Tag→Bool
 |.any,.any=>true
 |.full,.full=>true
 |.lit,.lit=>true
 |.grow g,.grow h=>Nat.beq g h
 |.own g,.own h=>Nat.beq g h
 |_,_=>false
def kindEq (a b:IntKind):Bool:=a==b
def fnEq:Fn→Fn→Bool
 |.func f,.func g=>Nat.beq f g
 |_,_=>false
mutual
def veq:AVal→AVal→Bool
 |.any,.any=>true
 |.int k n,.int k' n'=>kindEq k k'&&n==n'
 |.bool b,.bool b'=>b==b'
 |.str s,.str s'=>s==s'
 |.nilp,.nilp=>true
 |.ptr i o,.ptr i' o'=>Nat.beq i i'&&Nat.beq o o'
 |.cptr cs,.cptr cs'=>veqs cs cs'
 |.sl sz nl xs tg,.sl sz' nl' xs' tg'=>Nat.beq sz sz'&&nl==nl'&&tagEq tg tg'&&veqs xs xs'
 |.view i o n c,.view i' o' n' c'=>Nat.beq i i'&&Nat.beq o o'&&Nat.beq n n'&&Nat.beq c c'
 |.nilmap,.nilmap=>true
 |.map i,.map i'=>Nat.beq i i'
 |.fn f as bs,.fn f' as' bs'=>fnEq f f'&&veqs as as'&&veqs bs bs'
 |.nilfn,.nilfn=>true
 |.ifc t v,.ifc t' v'=>Nat.beq t t'&&veq v v'
 |.nilifc,.nilifc=>true
 |.agg cs,.agg cs'=>veqs cs cs'
 |.tup cs,.tup cs'=>veqs cs cs'
 |.yld i,.yld i'=>Nat.beq i i'
 |_,_=>false
def veqs:List AVal→List AVal→Bool
 |[],[]=>true
 |a::as,b::bs=>veq a b&&veqs as bs
 |_,_=>false
end
theorem nbeq {a b:Nat} (h:Nat.beq a b=true):a=b:=Nat.eq_of_beq_eq_true h
def meqs:List (AVal × AVal × Nat)→List (AVal × AVal × Nat)→Bool
 |[],[]=>true
 |(a,b,n)::r,(a',b',n')::r'=>veq a a'&&veq b b'&&Nat.beq n n'&&meqs r r'
 |_,_=>false
def peqs:List (AVal × AVal)→List (AVal × AVal)→Bool
 |[],[]=>true
 |(a,b)::r,(a',b')::r'=>veq a a'&&veq b b'&&peqs r r'
 |_,_=>false
def beqB:ABox→ABox→Bool
 |.cells cs t,.cells cs' t'=>Nat.beq t t'&&veqs cs cs'
 |.grow n sz t,.grow n' sz' t'=>Nat.beq n n'&&Nat.beq sz sz'&&Nat.beq t t'
 |.mp es c,.mp es' c'=>Nat.beq c c'&&meqs es es'
 |.hole,.hole=>true
 |.siter s p,.siter s' p'=>s==s'&&Nat.beq p p'
 |.mpx es c,.mpx es' c'=>Nat.beq c c'&&peqs es es'
 |.frz o,.frz o'=>(match o,o' with|none,none=>true|some a,some b=>peqs a b|_,_=>false)
 |.iter m s l q,.iter m' s' l' q'=>(match m,m' with|none,none=>true|some a,some b=>Nat.beq a b|_,_=>false)&&Nat.beq s s'&&l==l'&&Nat.beq q q'
 |_,_=>false
def seq:St→St→Bool
 |[],[]=>true
 |a::s,b::s'=>beqB a b&&seq s s'
 |_,_=>false
section
variable (C:Cx) (g:Nat→AVal) (S:St)
end
section
variable {C:Cx} {g:Nat→AVal} {S:St} {out:Out}
end
end
end Go.Am
end
section
namespace Go.Am
open Go
noncomputable section
section
variable {C:Cx} {g:Nat→AVal} {S:St} {out:Out}
end
end
end Go.Am
end
section
namespace Go.Am
open Go
noncomputable section
inductive XE
 |nrm
 |ext (id:Nat)
 |ret
def XE.ex:XE→Exit
 |.nrm=>.normal
 |.ext id=>.exit id
 |.ret=>.ret
structure Lg where
 rd:List (Option Nat × Nat)
 wr:List (Option Nat × St × St)
end
end Go.Am
end
