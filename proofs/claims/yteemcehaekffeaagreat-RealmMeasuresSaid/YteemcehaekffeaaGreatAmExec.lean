/- The abstract layer, reckoned by the kernel: what is to be asked of one operation, as a truth value. -/
import Derived.Test.YteemcehaekffeaaGreatAmYield
set_option linter.unusedVariables false
set_option linter.unusedSimpArgs false
section
namespace Go.Am
open Go
noncomputable section
def tagEq:Tag→Tag→Bool
 |.any,.any=>true
 |.full,.full=>true
 |.lit,.lit=>true
 |.grow g,.grow h=>Nat.beq g h
 |.own g,.own h=>Nat.beq g h
 |_,_=>false
def kindEq (a b:IntKind):Bool:=a==b
def fnEq:Fn→Fn→Bool
 |.func f,.func g=>Nat.beq f g
 |_,_=>false
mutual
def veq:AVal→AVal→Bool
 |.any,.any=>true
 |.int k n,.int k' n'=>kindEq k k'&&n==n'
 |.bool b,.bool b'=>b==b'
 |.str s,.str s'=>s==s'
 |.nilp,.nilp=>true
 |.ptr i o,.ptr i' o'=>Nat.beq i i'&&Nat.beq o o'
 |.cptr cs,.cptr cs'=>veqs cs cs'
 |.sl sz nl xs tg,.sl sz' nl' xs' tg'=>Nat.beq sz sz'&&nl==nl'&&tagEq tg tg'&&veqs xs xs'
 |.view i o n c,.view i' o' n' c'=>Nat.beq i i'&&Nat.beq o o'&&Nat.beq n n'&&Nat.beq c c'
 |.nilmap,.nilmap=>true
 |.map i,.map i'=>Nat.beq i i'
 |.fn f as bs,.fn f' as' bs'=>fnEq f f'&&veqs as as'&&veqs bs bs'
 |.nilfn,.nilfn=>true
 |.ifc t v,.ifc t' v'=>Nat.beq t t'&&veq v v'
 |.nilifc,.nilifc=>true
 |.agg cs,.agg cs'=>veqs cs cs'
 |.tup cs,.tup cs'=>veqs cs cs'
 |.yld i,.yld i'=>Nat.beq i i'
 |_,_=>false
def veqs:List AVal→List AVal→Bool
 |[],[]=>true
 |a::as,b::bs=>veq a b&&veqs as bs
 |_,_=>false
end
theorem nbeq {a b:Nat} (h:Nat.beq a b=true):a=b:=Nat.eq_of_beq_eq_true h
theorem tagEq_ok {a b:Tag} (h:tagEq a b=true):a=b:=by
 cases a<;>cases b<;>first|rfl|(simp [tagEq] at h;done)|(simp only [tagEq] at h;rw [nbeq h])
theorem fnEq_ok {a b:Fn} (h:fnEq a b=true):a=b:=by
 cases a<;>cases b<;>first|(simp [fnEq] at h;done)|(simp only [fnEq] at h;rw [nbeq h])
mutual
theorem veq_ok:∀ a b:AVal,veq a b=true→a=b
 |.any,b,h=>by cases b<;>first|rfl|(simp [veq] at h)
 |.raw v,b,h=>by cases b<;>simp [veq] at h
 |.int k n,b,h=>by cases b<;>simp [veq,kindEq] at h;simp [h]
 |.bool x,b,h=>by cases b<;>simp [veq] at h;simp [h]
 |.str s,b,h=>by cases b<;>simp [veq] at h;simp [h]
 |.nilp,b,h=>by cases b<;>first|rfl|(simp [veq] at h)
 |.ptr i o,b,h=>by
  cases b<;>simp only [veq,Bool.and_eq_true,Bool.false_eq_true] at h
  rw [nbeq h.1,nbeq h.2]
 |.cptr cs,b,h=>by
  cases b<;>simp only [veq,Bool.false_eq_true] at h
  rw [veqs_ok cs _ h]
 |.sl sz nl xs tg,b,h=>by
  cases b<;>simp only [veq,Bool.and_eq_true,beq_iff_eq,Bool.false_eq_true] at h
  rw [nbeq h.1.1.1,h.1.1.2,tagEq_ok h.1.2,veqs_ok xs _ h.2]
 |.view i o n c,b,h=>by
  cases b<;>simp only [veq,Bool.and_eq_true,Bool.false_eq_true] at h
  rw [nbeq h.1.1.1,nbeq h.1.1.2,nbeq h.1.2,nbeq h.2]
 |.nilmap,b,h=>by cases b<;>first|rfl|(simp [veq] at h)
 |.map i,b,h=>by
  cases b<;>simp only [veq,Bool.false_eq_true] at h
  rw [nbeq h]
 |.fn f as bs,b,h=>by
  cases b<;>simp only [veq,Bool.and_eq_true,Bool.false_eq_true] at h
  rw [fnEq_ok h.1.1,veqs_ok as _ h.1.2,veqs_ok bs _ h.2]
 |.nilfn,b,h=>by cases b<;>first|rfl|(simp [veq] at h)
 |.ifc t v,b,h=>by
  cases b<;>simp only [veq,Bool.and_eq_true,Bool.false_eq_true] at h
  rw [nbeq h.1,veq_ok v _ h.2]
 |.nilifc,b,h=>by cases b<;>first|rfl|(simp [veq] at h)
 |.agg cs,b,h=>by
  cases b<;>simp only [veq,Bool.false_eq_true] at h
  rw [veqs_ok cs _ h]
 |.tup cs,b,h=>by
  cases b<;>simp only [veq,Bool.false_eq_true] at h
  rw [veqs_ok cs _ h]
 |.room g sz t n,b,h=>by cases b<;>simp [veq] at h
 |.yld i,b,h=>by
  cases b<;>simp only [veq,Bool.false_eq_true] at h
  rw [nbeq h]
theorem veqs_ok:∀ as bs:List AVal,veqs as bs=true→as=bs
 |[],bs,h=>by cases bs<;>first|rfl|(simp [veqs] at h)
 |a::as,bs,h=>by
  cases bs with
  |nil=>simp [veqs] at h
  |cons b bs =>
   simp only [veqs,Bool.and_eq_true] at h
   rw [veq_ok a b h.1,veqs_ok as bs h.2]
end
def meqs:List (AVal × AVal × Nat)→List (AVal × AVal × Nat)→Bool
 |[],[]=>true
 |(a,b,n)::r,(a',b',n')::r'=>veq a a'&&veq b b'&&Nat.beq n n'&&meqs r r'
 |_,_=>false
theorem meqs_ok:∀ {a b},meqs a b=true→a=b
 |[],[],_=>rfl
 |[],_::_,h=>by simp [meqs] at h
 |_::_,[],h=>by simp [meqs] at h
 |(a,b,n)::r,(a',b',n')::r',h=>by
  simp only [meqs,Bool.and_eq_true] at h
  rw [veq_ok _ _ h.1.1.1,veq_ok _ _ h.1.1.2,nbeq h.1.2,meqs_ok h.2]
def peqs:List (AVal × AVal)→List (AVal × AVal)→Bool
 |[],[]=>true
 |(a,b)::r,(a',b')::r'=>veq a a'&&veq b b'&&peqs r r'
 |_,_=>false
theorem peqs_ok:∀ {a b},peqs a b=true→a=b
 |[],[],_=>rfl
 |[],_::_,h=>by simp [peqs] at h
 |_::_,[],h=>by simp [peqs] at h
 |(a,b)::r,(a',b')::r',h=>by
  simp only [peqs,Bool.and_eq_true] at h
  rw [veq_ok _ _ h.1.1,veq_ok _ _ h.1.2,peqs_ok h.2]
def beqB:ABox→ABox→Bool
 |.cells cs t,.cells cs' t'=>Nat.beq t t'&&veqs cs cs'
 |.grow n sz t,.grow n' sz' t'=>Nat.beq n n'&&Nat.beq sz sz'&&Nat.beq t t'
 |.mp es c,.mp es' c'=>Nat.beq c c'&&meqs es es'
 |.hole,.hole=>true
 |.siter s p,.siter s' p'=>s==s'&&Nat.beq p p'
 |.mpx es c,.mpx es' c'=>Nat.beq c c'&&peqs es es'
 |.frz o,.frz o'=>(match o,o' with|none,none=>true|some a,some b=>peqs a b|_,_=>false)
 |.iter m s l q,.iter m' s' l' q'=>(match m,m' with|none,none=>true|some a,some b=>Nat.beq a b|_,_=>false)&&Nat.beq s s'&&l==l'&&Nat.beq q q'
 |_,_=>false
theorem beqB_ok {a b:ABox} (h:beqB a b=true):a=b:=by
 cases a<;>cases b<;>simp only [beqB,Bool.and_eq_true,Bool.false_eq_true] at h
 ·rw [nbeq h.1,veqs_ok _ _ h.2]
 ·rw [nbeq h.1.1,nbeq h.1.2,nbeq h.2]
 ·rw [nbeq h.1,meqs_ok h.2]
 ·next m s l q m' s' l' q' =>
  obtain ⟨⟨⟨h1,h2⟩,h3⟩,h4⟩:=h
  rw [nbeq h2,nbeq h4,beq_iff_eq.1 h3]
  cases m<;>cases m'<;>first|rfl|(cases h1;done)|(rw [nbeq h1])
 ·rw [nbeq h.1,peqs_ok h.2]
 ·next o o'=>cases o<;>cases o'<;>first|rfl|(cases h;done)|(rw [peqs_ok h])
 ·rfl
 ·rw [beq_iff_eq.1 h.1,nbeq h.2]
def seq:St→St→Bool
 |[],[]=>true
 |a::s,b::s'=>beqB a b&&seq s s'
 |_,_=>false
theorem seq_ok:∀ {a b:St},seq a b=true→a=b
 |[],[],_=>rfl
 |[],_::_,h=>by simp [seq] at h
 |_::_,[],h=>by simp [seq] at h
 |a::s,b::s',h=>by
  simp only [seq,Bool.and_eq_true] at h
  rw [beqB_ok h.1,seq_ok h.2]
def okcB (v:AVal):Bool:=v.cells.all (·.one)
theorem okcB_ok {v:AVal} (h:okcB v=true):v.okc:=fun c hc=>List.all_eq_true.1 h c hc
def posB:Bd→Bool
 |none=>true
 |some (_,n)=>decide (0≤n)
theorem posB_ok {b:Bd} (h:posB b=true):b.pos:=by
 cases b with
 |none=>trivial
 |some p=>exact (by simpa [posB] using h:0≤p.2)
def isU8:TypeDesc→Bool
 |.int k=>k == .u8
 |_=>false
theorem isU8_ok {d:TypeDesc} (h:isU8 d=true):d = .int .u8:=by
 cases d<;>simp only [isU8,Bool.false_eq_true,beq_iff_eq] at h
 rw [h]
def srcTyB (C:Cx) (tx:TypeId) (v:AVal):Bool :=
 match C.T tx with
 |none=>false
 |some i=>match v with
  |.str _=>(match i.d with|.string=>true|_=>false)
  |_=>(match i.d with|.slice _=>true|_=>false)
theorem srcTyB_ok {C:Cx} {tx:TypeId} {v:AVal} (h:srcTyB C tx v=true):srcTy C tx v:=by
 unfold srcTyB at h
 unfold srcTy
 split at h
 ·cases h
 ·next i hi =>
  split
  ·next s =>
   simp only at h
   split at h
   ·next hd=>exact ⟨i,hi,hd⟩
   ·cases h
  ·next hv =>
   split at h
   ·next s=>exact absurd rfl (hv s)
   ·split at h
    ·next e hd=>exact ⟨i,e,hi,hd⟩
    ·cases h
def srcOkB (S:St) (sz:Nat) (v:AVal):Bool :=
 match v with
 |.sl sz' _ xs _=>Nat.beq sz' sz||xs.isEmpty
 |.str _=>Nat.beq sz 1
 |.view i off n _=>match S[i]? with
  |some (.cells cs _)=>Nat.beq sz 1&&decide (off+n≤cs.length)&&((cs.drop off).take n).all (·.one)
  |_=>false
 |_=>false
theorem srcOkB_ok {S:St} {sz:Nat} {v:AVal} (h:srcOkB S sz v=true):srcOk S sz v:=by
 unfold srcOkB at h
 split at h
 ·rcases Bool.or_eq_true_iff.1 h with h|h
  ·exact .inl (nbeq h)
  ·exact .inr (by simpa using h)
 ·exact nbeq h
 ·split at h
  ·next cs t hS =>
   simp only [Bool.and_eq_true,decide_eq_true_eq] at h
   exact ⟨nbeq h.1.1,cs,t,hS,h.1.2,fun c hc=>List.all_eq_true.1 h.2 c hc⟩
  ·cases h
 ·cases h
def keysB (C:Cx) (kt:TypeId) (k:AVal) (es:Ents):Bool:=keyFit C kt k&&es.all fun e=>keyFit C kt e.1
theorem keysB_ok {C:Cx} {kt:TypeId} {k:AVal} {es:Ents} (h:keysB C kt k es=true):keysOk C kt k es:=by
 simp only [keysB,Bool.and_eq_true] at h
 exact ⟨h.1,fun e he=>List.all_eq_true.1 h.2 e he⟩
def isI64:AVal→Bool
 |.int k _=>k == .i64
 |_=>false
section
variable (C:Cx) (g:Nat→AVal) (S:St)
def cLoad (t:TypeId) (v:AVal):Bool :=
 match C.T t with
 |none=>false
 |some i=>match v with
  |.cptr cs=>decide (i.size≤cs.length)
  |.ptr b off=>match S[b]? with
   |some (.cells bs _)=>decide (off+i.size≤bs.length)
   |_=>false
  |_=>false
def cStore (t:TypeId) (a v:AVal):Bool :=
 match C.T t with
 |none=>false
 |some i=>match a with
  |.ptr b off=>match S[b]? with
   |some (.cells bs _)=>decide (off+i.size≤bs.length)&&Nat.beq v.cells.length i.size&&okcB v
   |_=>false
  |_=>false
def cIndexAddr (t:TypeId) (x ix:AVal):Bool :=
 match C.T t with
 |none=>false
 |some i=>match i.d with
  |.slice e=>match C.T e with
   |none=>false
   |some j=>match x,ix with
    |.sl sz _ xs _,.int _ n=>Nat.beq sz j.size&&decide (0≤n)&&decide (n.toNat<xs.length)
    |.view _ _ m _,.int _ n=>decide (0≤n)&&decide (n.toNat<m)
    |_,_=>false
  |.array m e=>match C.T e with
   |none=>false
   |some _=>match x,ix with
    |.ptr _ _,.int _ n=>decide (0≤n)&&decide (n.toNat<m)
    |.cptr _,.int _ n=>decide (0≤n)&&decide (n.toNat<m)
    |_,_=>false
  |_=>false
def cIndex (t:TypeId) (x ix:AVal):Bool :=
 match C.T t with
 |none=>false
 |some i=>match i.d with
  |.string=>match x,ix with
   |.str s,.int _ n=>decide (0≤n)&&decide (n.toNat<s.length)
   |_,_=>false
  |.array m e=>match C.T e with
   |none=>false
   |some j=>match x,ix with
    |.agg cs,.int _ n=>decide (0≤n)&&decide (n.toNat<m)&&decide (n.toNat*j.size+j.size≤cs.length)
    |_,_=>false
  |_=>false
def cFieldAddr (t:TypeId) (k:Nat):Bool :=
 match C.T t with
 |none=>false
 |some i=>match fieldOf i k with
  |none=>false
  |some (_,tf)=>match C.T tf with
   |none=>false
   |some j => !Nat.beq j.size 0
def cField (t:TypeId) (x:AVal) (k:Nat):Bool :=
 match C.T t with
 |none=>false
 |some i=>match fieldOf i k with
  |none=>false
  |some (off,tf)=>match C.T tf with
   |none=>false
   |some j=>match x with
    |.agg cs=>decide (off+j.size≤cs.length)
    |_=>false
def cSlice (t:TypeId) (x:AVal) (lo hi mx:Option AVal):Bool :=
 match C.T t,toBd lo,toBd hi,toBd mx with
 |some i,some l,some h,some m=>match i.d with
  |.string=>match x with
   |.str s=>mx.isNone&&posB l&&posB h&&decide (l.at 0≤h.at s.length)&&decide (h.at s.length≤s.length)
   |_=>false
  |.slice e=>match C.T e with
   |none=>false
   |some j=>match x with
    |.room _ sz q _=>Nat.beq sz j.size&&Nat.beq q e&&l.isNone&&h.isSome&&posB h&&Nat.beq (h.at 0) 0&&m.isNone
    |.view _ _ n c=>m.isNone&&posB l&&posB h&&decide (l.at 0≤h.at n)&&decide (h.at n≤c)&&(decide (l.at 0<c)||Nat.beq (l.at 0) 0)
    |.sl sz _ xs _=>Nat.beq sz j.size&&posB l&&posB h&&posB m&&decide (l.at 0≤h.at xs.length)&&decide (h.at xs.length≤xs.length)&&(m.isNone||(decide (h.at xs.length≤m.at 0)&&decide (m.at 0≤xs.length)&&h.isSome))
    |_=>false
  |.array n e=>match C.T e with
   |none=>false
   |some j=>match x with
    |.ptr _ _=>mx.isNone&&posB l&&posB h&&decide (l.at 0≤h.at n)&&decide (h.at n≤n)&&(decide (l.at 0<n)||Nat.beq (l.at 0) 0)
    |.cptr cs=>mx.isNone&&posB l&&posB h&&decide (l.at 0≤h.at n)&&decide (h.at n≤n)&&(decide (l.at 0<n)||Nat.beq (l.at 0) 0)&&Nat.beq j.size 1&&cs.all (·.one)&&decide (n≤cs.length)&&decide (n≤maxLen)
    |_=>false
  |_=>false
 |_,_,_,_=>false
def cConvert (src dst:TypeId) (x:AVal):Bool :=
 match C.T src,C.T dst with
 |some i,some j=>match i.d,j.d with
  |.int _,.int _=>true
  |.string,.string=>true
  |.string,.slice e=>match C.T e with
   |some q=>match x with
    |.str s=>isU8 q.d&&decide (s.length≤maxLen)
    |_=>false
   |none=>false
  |.slice e,.string=>match C.T e with
   |some q=>match x with
    |.sl sz _ xs _=>isU8 q.d&&Nat.beq sz 1&&veqs xs (bl (xs.map unb))
    |_=>false
   |none=>false
  |_,_=>false
 |_,_=>false
def cAgg (t:TypeId) (xs ys:List AVal):Bool :=
 match C.T t with
 |some i=>i.isAgg&&flatT C.P C.T 20 t && !C.P.eqGuardType C.P.depth t&&skbs xs i.zero&&skbs ys i.zero
 |none=>false
def cNil (t:TypeId) (x y:AVal):Bool :=
 match C.T t with
 |some i=>nilKind i.d x&&nilKind i.d y
 |none=>false
def cIfc (t:TypeId):Bool :=
 match C.T t with
 |some i=>(match i.d with|.interface _=>true|_=>false)
 |none=>false
def cBin (op:BinOp) (t:TypeId) (x y:AVal):Bool :=
 match op,x,y with
 |.shl,.int _ _,.int _ b=>decide (0≤b)
 |.shr,.int _ _,.int _ b=>decide (0≤b)
 |op,.int k _,.int k' b=>kindEq k k'&&(match op with|.quo|.rem => !(b==0)|_=>true)
 |.add,.str a,.str b=>decide (a.length+b.length≤maxLen)
 |_,.str _,.str _=>true
 |_,.bool _,.bool _=>true
 |_,.agg xs,.agg ys=>cAgg C t xs ys
 |_,.nilifc,.nilifc=>cIfc C t
 |_,x,y=>cNil C t x y
def cAppend (t tx:TypeId) (x v:AVal):Bool :=
 match C.T t with
 |none=>false
 |some i=>match i.d with
  |.slice e=>match C.T e with
   |none=>false
   |some j=>match x with
    |.sl sz _ xs (.grow g)=>Nat.beq sz j.size&&(match S[g]? with|some (.grow n s q)=>Nat.beq n xs.length&&Nat.beq s j.size&&Nat.beq q e|_=>false)&&srcTyB C tx v&&srcOkB S j.size v &&
      decide (xs.length+(srcOf S v).length≤maxLen)&&decide ((xs.length+(srcOf S v).length)*j.bytes≤140737488355328)
    |.sl _ _ _ (.own _)=>false
    |.sl _ true [] _=>srcTyB C tx v&&srcOkB S j.size v&&decide ((srcOf S v).length≤maxLen)&&decide ((srcOf S v).length*j.bytes≤140737488355328)
    |.sl sz _ xs .full=>Nat.beq sz j.size&&srcTyB C tx v&&srcOkB S j.size v&&decide (xs.length+(srcOf S v).length≤maxLen)&&decide ((xs.length+(srcOf S v).length)*j.bytes≤140737488355328)
    |_=>false
  |_=>false
def cAppend0 (t tx:TypeId) (n:Int):Bool :=
 match C.T t with
 |none=>false
 |some i=>match i.d with
  |.slice e=>match C.T e with
   |none=>false
   |some j=>decide (0<n)&&decide (0<j.size)&&decide (n≤9223372036854775807)&&decide (n.toNat*j.bytes≤140737488355328)&&(match C.T tx with|some q=>(match q.d with|.int _=>true|_=>false)|none=>false)
  |_=>false
def cCopy (t:TypeId) (x v:AVal):Bool :=
 match C.T t with
 |none=>false
 |some i=>match i.d with
  |.slice e=>match C.T e with
   |none=>false
   |some j=>match x with
    |.view b off n _=>match S[b]? with
     |some (.cells bs _)=>Nat.beq j.size 1&&decide (off+n≤bs.length)&&srcOkB S 1 v&&(srcOf S v).all (·.one)
     |_=>false
    |_=>false
  |_=>false
def cKeys (t:TypeId) (x k:AVal):Bool :=
 match C.T t with
 |none=>false
 |some i=>match i.d with
  |.map kt _=>match x with
   |.nilmap=>keyFit C kt k
   |.map b=>match S[b]? with
    |some (.mp es _)=>keysB C kt k es
    |_=>false
   |_=>false
  |_=>false
def cKeysX (t:TypeId) (x k:AVal) (q:List (AVal × AVal)→Bool):Bool :=
 match C.T t with
 |none=>false
 |some i=>match i.d with
  |.map kt _=>match x with
   |.map b=>match boxX S[b]? with
    |some es=>keysB C kt k (tagE es)&&q es
    |none=>false
   |_=>false
  |_=>false
def cMake (t:TypeId) (l c:AVal):Bool :=
 match C.T t with
 |none=>false
 |some i=>match i.d with
  |.slice e=>match C.T e with
   |none=>false
   |some j=>match l,c with
    |.int _ n,.int _ m=>isI64 l&&isI64 c&&decide (0≤n)&&decide (n≤m)&&decide (m≤9223372036854775807)&&decide (j.bytes*m.toNat≤140737488355328)
    |_,_=>false
  |_=>false
def cEntry (it:AVal):Bool :=
 match it with
 |.ptr k 0=>match S[k]? with
  |some (.iter (some mi) _ _ last)=>match S[mi]? with
   |some (.mp _ c)=>Nat.beq c last
   |_=>false
  |_=>false
 |_=>false
def cS2a (t:TypeId) (v:AVal):Bool :=
 match C.T t with
 |some i=>match i.d with
  |.array n e=>match C.T e with
   |some j=>match v with
    |.sl sz _ xs _=>Nat.beq sz 1&&Nat.beq j.size 1&&decide (0<n)&&decide (n≤xs.length)&&(xs.take n).all (·.one)
    |.view _ _ m _=>decide (n≤m)
    |_=>false
   |none=>false
  |_=>false
 |none=>false
def cBuild (t:TypeId) (parts:Array (Nat × Operand)):Bool :=
 match C.T t with
 |some i=>i.isAgg&&(match i.d with|.array _ e=>(C.T e).isSome|_=>true)&&parts.toList.all fun p=>okcB (aEval C g p.2)
 |none=>false
def cBuildSlice (t:TypeId) (n:Nat) (parts:Array (Nat × Operand)):Bool :=
 match C.T t with
 |some i=>match i.d with
  |.slice e=>match C.T e with
   |some j=>decide (0<j.size)&&decide (n*j.size≤16777216)&&parts.toList.all fun p=>okcB (aEval C g p.2)
   |none=>false
  |_=>false
 |none=>false
def xchk (op:Op):Bool :=
 match op with
 |.move _|.assign _|.pick _ _ _|.alloc _|.unOp _ _ _|.makeFunc _ _ _|.makeMap _ _|.range _ _|.entryStore _ _ _ _|.nilCheck _|.next _ true=>true
 |.box _ x=>okcB (aEval C g x)
 |.build t parts=>cBuild C g t parts
 |.buildSlice t n parts=>cBuildSlice C g t n parts
 |.load t a=>cLoad C S t (aEval C g a)
 |.store t a v=>cStore C S t (aEval C g a) (aEval C g v)
 |.binOp op t x y _=>cBin C op t (aEval C g x) (aEval C g y)
 |.convert src dst x=>cConvert C src dst (aEval C g x)
 |.sliceToArrayPointer t x=>cS2a C t (aEval C g x)
 |.makeInterface t _=>C.P.concrete t
 |.slice t x lo hi mx=>cSlice C t (aEval C g x) (lo.map (aEval C g)) (hi.map (aEval C g)) (mx.map (aEval C g))
 |.fieldAddr t _ k=>cFieldAddr C t k
 |.field t x k=>cField C t (aEval C g x) k
 |.indexAddr t x ix=>cIndexAddr C t (aEval C g x) (aEval C g ix)
 |.index t x ix=>cIndex C t (aEval C g x) (aEval C g ix)
 |.extract t k=>match aEval C g t with
  |.tup vs=>Nat.blt k vs.length
  |_=>false
 |.insert t m k _=>cKeys C S t (aEval C g m) (aEval C g k)||cKeysX C S t (aEval C g m) (aEval C g k) (freshX (aEval C g k))
 |.mapUpdate t m k _=>cKeys C S t (aEval C g m) (aEval C g k)||cKeysX C S t (aEval C g m) (aEval C g k) (freshX (aEval C g k))
 |.lookup t m k _=>cKeys C S t (aEval C g m) (aEval C g k)||cKeysX C S t (aEval C g m) (aEval C g k) (oneX (aEval C g k))
 |.mapEntry t m k=>cKeys C S t (aEval C g m) (aEval C g k)
 |.entry it=>cEntry S (aEval C g it)
 |.makeSlice t l c=>cMake C t (aEval C g l) (aEval C g c)
 |.call c=>match c.callee with
  |.builtin b=>match b,c.argTypes.toList,c.args.toList.map (aEval C g) with
   |.len,[_],[_]=>true
   |.append,[t,tx],[x,v]=>match v,x with
    |.int _ n,.sl _ true [] _=>cAppend0 C t tx n
    |_,_=>cAppend C S t tx x v
   |.cap,[_],[_]=>true
   |.copy,[t,_],[x,v]=>cCopy C S t x v
   |.delete,[t,_],[x,k]=>cKeys C S t x k
   |.min,_,_=>true
   |.max,_,_=>true
   |_,_,_=>false
  |_=>false
 |_=>false
end
section
variable {C:Cx} {g:Nat→AVal} {S:St} {out:Out}
theorem cLoad_ok {t:TypeId} {v:AVal} (h:cLoad C S t v=true) (ha:aLoad C S t v=some out):out.sd:=by
 unfold cLoad at h
 unfold aLoad at ha
 split at ha
 ·cases ha
 ·next i hi =>
  simp only [hi] at h
  split at ha
  ·injection ha with ha;subst ha;exact of_decide_eq_true h
  ·split at ha
   ·next hb =>
    simp only [hb] at h
    injection ha with ha;subst ha;exact of_decide_eq_true h
   ·next hb=>simp [hb] at h
   ·cases ha
  ·cases ha
theorem cStore_ok {t:TypeId} {a v:AVal} (h:cStore C S t a v=true) (ha:aStore C S t a v=some out):out.sd:=by
 unfold cStore at h
 unfold aStore at ha
 split at ha
 ·cases ha
 ·next i hi =>
  simp only [hi] at h
  split at ha
  ·split at ha
   ·next hb =>
    simp only [hb,Bool.and_eq_true,decide_eq_true_eq] at h
    injection ha with ha;subst ha;exact ⟨h.1.1,nbeq h.1.2,okcB_ok h.2⟩
   ·next hb=>simp [hb] at h
   ·cases ha
  ·cases ha
theorem cIndexAddr_ok {t:TypeId} {x ix:AVal} (h:cIndexAddr C t x ix=true) (ha:aIndexAddr C S t x ix=some out):out.sd:=by
 unfold cIndexAddr at h
 unfold aIndexAddr at ha
 split at ha
 ·cases ha
 ·next i hi =>
  simp only [hi] at h
  split at ha
  ·next e hd =>
   simp only [hd] at h
   split at ha
   ·cases ha
   ·next j hj =>
    simp only [hj] at h
    split at ha
    ·simp only [Bool.and_eq_true,decide_eq_true_eq] at h
     injection ha with ha;subst ha;exact ⟨nbeq h.1.1,h.1.2,h.2⟩
    ·simp only [Bool.and_eq_true,decide_eq_true_eq] at h
     injection ha with ha;subst ha;exact h
    ·simp at h
    ·simp at h
    ·cases ha
  ·next m e hd =>
   simp only [hd] at h
   split at ha
   ·cases ha
   ·next j hj =>
    simp only [hj] at h
    split at ha
    ·simp only [Bool.and_eq_true,decide_eq_true_eq] at h
     injection ha with ha;subst ha;exact h
    ·simp only [Bool.and_eq_true,decide_eq_true_eq] at h
     injection ha with ha;subst ha;exact h
    ·cases ha
  ·cases ha
theorem cIndex_ok {t:TypeId} {x ix:AVal} (h:cIndex C t x ix=true) (ha:aIndex C S t x ix=some out):out.sd:=by
 unfold cIndex at h
 unfold aIndex at ha
 split at ha
 ·cases ha
 ·next i hi =>
  simp only [hi] at h
  split at ha
  ·next hd =>
   simp only [hd] at h
   split at ha
   ·simp only [Bool.and_eq_true,decide_eq_true_eq] at h
    injection ha with ha;subst ha;exact h
   ·cases ha
  ·next m e hd =>
   simp only [hd] at h
   split at ha
   ·cases ha
   ·next j hj =>
    simp only [hj] at h
    split at ha
    ·simp only [Bool.and_eq_true,decide_eq_true_eq] at h
     injection ha with ha;subst ha;exact ⟨h.1.1,h.1.2,h.2⟩
    ·cases ha
  ·cases ha
theorem cFieldAddr_ok {t:TypeId} {x:AVal} {k:Nat} (h:cFieldAddr C t k=true) (ha:aFieldAddr C S t x k=some out):out.sd:=by
 unfold cFieldAddr at h
 unfold aFieldAddr at ha
 split at ha
 ·cases ha
 ·next i hi =>
  simp only [hi] at h
  split at ha
  ·cases ha
  ·next off tf hf =>
   simp only [hf] at h
   split at ha
   ·cases ha
   ·next j hj =>
    simp only [hj,Bool.not_eq_true'] at h
    have hne:j.size≠0:=fun e=>by rw [e] at h;simp at h
    split at ha
    ·injection ha with ha;subst ha;exact hne
    ·injection ha with ha;subst ha;exact hne
    ·cases ha
theorem cField_ok {t:TypeId} {x:AVal} {k:Nat} (h:cField C t x k=true) (ha:aField C S t x k=some out):out.sd:=by
 unfold cField at h
 unfold aField at ha
 split at ha
 ·cases ha
 ·next i hi =>
  simp only [hi] at h
  split at ha
  ·cases ha
  ·next off tf hf =>
   simp only [hf] at h
   split at ha
   ·cases ha
   ·next j hj =>
    simp only [hj] at h
    split at ha
    ·injection ha with ha;subst ha;exact of_decide_eq_true h
    ·cases ha
theorem cSlice_ok {t:TypeId} {x:AVal} {lo hi mx:Option AVal} (h:cSlice C t x lo hi mx=true) (ha:aSlice C S t x lo hi mx=some out):out.sd:=by
 unfold cSlice at h
 unfold aSlice at ha
 split at ha
 ·next i l hh m e1 e2 e3 e4 =>
  simp only [e1,e2,e3,e4] at h
  split at ha
  ·next hd =>
   simp only [hd] at h
   split at ha
   ·simp only [Bool.and_eq_true,decide_eq_true_eq,Option.isNone_iff_eq_none] at h
    injection ha with ha;subst ha
    exact ⟨h.1.1.1.1,posB_ok h.1.1.1.2,posB_ok h.1.1.2,h.1.2,h.2⟩
   ·cases ha
  ·next e hd =>
   simp only [hd] at h
   split at ha
   ·cases ha
   ·next j hj =>
    simp only [hj] at h
    split at ha
    ·simp only [Bool.and_eq_true,Option.isNone_iff_eq_none] at h
     injection ha with ha;subst ha
     obtain ⟨⟨⟨⟨⟨⟨h1,h2⟩,h3⟩,h4⟩,h5⟩,h6⟩,h7⟩:=h
     exact ⟨nbeq h1,nbeq h2,h3,h4,posB_ok h5,nbeq h6,h7⟩
    ·cases h
    ·simp only [Bool.and_eq_true,Bool.or_eq_true,decide_eq_true_eq,Option.isNone_iff_eq_none] at h
     injection ha with ha;subst ha
     obtain ⟨⟨⟨⟨⟨h1,h2⟩,h3⟩,h4⟩,h5⟩,h6⟩:=h
     exact ⟨h1,posB_ok h2,posB_ok h3,h4,h5,h6.imp id nbeq⟩
    ·simp only [Bool.and_eq_true,Bool.or_eq_true,decide_eq_true_eq,Option.isNone_iff_eq_none] at h
     injection ha with ha;subst ha
     obtain ⟨⟨⟨⟨⟨⟨h1,h2⟩,h3⟩,h4⟩,h5⟩,h6⟩,h7⟩:=h
     exact ⟨nbeq h1,posB_ok h2,posB_ok h3,posB_ok h4,h5,h6,h7.imp id fun q=>⟨q.1.1,q.1.2,q.2⟩⟩
    ·cases ha
  ·next n e hd =>
   simp only [hd] at h
   split at ha
   ·cases ha
   ·next j hj =>
    simp only [hj] at h
    split at ha
    ·simp only [Bool.and_eq_true,Bool.or_eq_true,decide_eq_true_eq,Option.isNone_iff_eq_none] at h
     injection ha with ha;subst ha
     obtain ⟨⟨⟨⟨⟨h1,h2⟩,h3⟩,h4⟩,h5⟩,h6⟩:=h
     exact ⟨h1,posB_ok h2,posB_ok h3,h4,h5,h6.imp id nbeq⟩
    ·simp only [Bool.and_eq_true,Bool.or_eq_true,decide_eq_true_eq,Option.isNone_iff_eq_none] at h
     injection ha with ha;subst ha
     obtain ⟨⟨⟨⟨⟨⟨⟨⟨⟨h1,h2⟩,h3⟩,h4⟩,h5⟩,h6⟩,h7⟩,h8⟩,h9⟩,h10⟩:=h
     exact ⟨h1,posB_ok h2,posB_ok h3,h4,h5,h6.imp id nbeq,nbeq h7,fun c hc=>List.all_eq_true.1 h8 c hc,h9,h10⟩
    ·cases ha
  ·cases ha
 ·cases ha
theorem cConvert_ok {src dst:TypeId} {x:AVal} (h:cConvert C src dst x=true) (ha:aConvert C S src dst x=some out):out.sd:=by
 unfold cConvert at h
 unfold aConvert at ha
 split at ha
 ·next i j hi hj =>
  simp only [hi,hj] at h
  split at ha
  ·split at ha
   ·injection ha with ha;subst ha;trivial
   ·cases ha
  ·split at ha
   ·injection ha with ha;subst ha;trivial
   ·cases ha
  ·next e h1 h2 =>
   simp only [h1,h2] at h
   split at ha
   ·next q hq =>
    simp only [hq] at h
    split at ha
    ·simp only [Bool.and_eq_true,decide_eq_true_eq] at h
     injection ha with ha;subst ha;exact ⟨isU8_ok h.1,h.2⟩
    ·cases ha
   ·cases ha
  ·next e' e h1 h2 =>
   rw [h1,h2] at h
   cases h
  ·next e h1 h2 =>
   simp only [h1,h2] at h
   split at ha
   ·next q hq =>
    simp only [hq] at h
    split at ha
    ·simp only [Bool.and_eq_true] at h
     injection ha with ha;subst ha;exact ⟨isU8_ok h.1.1,nbeq h.1.2,veqs_ok _ _ h.2⟩
    ·first|(cases h;done)|(simp at h;done)
    ·cases ha
   ·cases ha
  ·cases ha
 ·cases ha
theorem cNil_ok {t:TypeId} {x y:AVal} (h:cNil C t x y=true):∃ i,C.T t=some i∧nilKind i.d x=true∧nilKind i.d y=true:=by
 unfold cNil at h
 split at h
 ·next i hi =>
  simp only [Bool.and_eq_true] at h
  exact ⟨i,hi,h⟩
 ·cases h
theorem cAppend_ok {t tx:TypeId} {x v:AVal} (h:cAppend C S t tx x v=true) (ha:aAppend C S t tx x v=some out):out.sd:=by
 unfold cAppend at h
 unfold aAppend at ha
 split at ha
 ·cases ha
 ·next i hi =>
  simp only [hi] at h
  split at ha
  ·next e hd =>
   simp only [hd] at h
   split at ha
   ·cases ha
   ·next j hj =>
    simp only [hj] at h
    split at ha
    ·next sz nl xs gg =>
     simp only [Bool.and_eq_true,decide_eq_true_eq] at h
     injection ha with ha;subst ha
     obtain ⟨⟨⟨⟨⟨h1,h2⟩,h3⟩,h4⟩,h5⟩,h6⟩:=h
     refine ⟨nbeq h1,?_,srcTyB_ok h3,srcOkB_ok h4,h5,h6⟩
     split at h2
     ·next n s q hg =>
      simp only [Bool.and_eq_true] at h2
      rw [hg,nbeq h2.1.1,nbeq h2.1.2,nbeq h2.2]
     ·cases h2
    ·exact absurd h (by simp)
    ·simp only [Bool.and_eq_true,decide_eq_true_eq] at h
     injection ha with ha;subst ha
     exact ⟨srcTyB_ok h.1.1.1,srcOkB_ok h.1.1.2,h.1.2,h.2⟩
    ·simp only [Bool.and_eq_true,decide_eq_true_eq] at h
     injection ha with ha;subst ha
     exact ⟨nbeq h.1.1.1.1,srcTyB_ok h.1.1.1.2,srcOkB_ok h.1.1.2,h.1.2,h.2⟩
    ·cases ha
  ·cases ha
theorem cAppend0_ok {t tx:TypeId} {n:Int} (h:cAppend0 C t tx n=true) (ha:aAppend0 C S t tx n=some out):out.sd:=by
 unfold cAppend0 at h
 unfold aAppend0 at ha
 split at ha
 ·cases ha
 ·next i hi =>
  simp only [hi] at h
  split at ha
  ·next e hd =>
   simp only [hd] at h
   split at ha
   ·cases ha
   ·next j hj =>
    simp only [hj,Bool.and_eq_true,decide_eq_true_eq] at h
    injection ha with ha;subst ha
    obtain ⟨⟨⟨⟨h1,h2⟩,h3⟩,h4⟩,h5⟩:=h
    refine ⟨h1,h2,h3,h4,?_⟩
    split at h5
    ·next q hq =>
     split at h5
     ·next k hk=>exact ⟨q,k,hq,hk⟩
     ·cases h5
    ·cases h5
  ·cases ha
theorem cCopy_ok {t tx:TypeId} {x v:AVal} (h:cCopy C S t x v=true) (ha:aCopy C S t tx x v=some out):out.sd:=by
 unfold cCopy at h
 unfold aCopy at ha
 split at ha
 ·cases ha
 ·next i hi =>
  simp only [hi] at h
  split at ha
  ·next e hd =>
   simp only [hd] at h
   split at ha
   ·cases ha
   ·next j hj =>
    simp only [hj] at h
    split at ha
    ·split at ha
     ·next hb =>
      simp only [hb,Bool.and_eq_true,decide_eq_true_eq] at h
      injection ha with ha;subst ha
      exact ⟨nbeq h.1.1.1,h.1.1.2,srcOkB_ok h.1.2,fun y hy=>List.all_eq_true.1 h.2 y hy⟩
     ·cases ha
    ·cases ha
  ·cases ha
end
end
end Go.Am
end
section
namespace Go.Am
open Go
noncomputable section
section
variable {C:Cx} {g:Nat→AVal} {S:St} {out:Out}
theorem cKeysX_ok {t kt et:TypeId} {i:TI} {b:Nat} {k:AVal} {q:List (AVal × AVal)→Bool} {es:List (AVal × AVal)} (h:cKeysX C S t (.map b) k q=true) (hi:C.T t=some i) (hd:i.d = .map kt et)
  (hb:boxX S[b]? = some es):keysOk C kt k (tagE es)∧q es=true:=by
 unfold cKeysX at h
 simp only [hi,hd,hb,Bool.and_eq_true] at h
 exact ⟨keysB_ok h.1,h.2⟩
theorem cKeys_lookup {t:TypeId} {x k:AVal} {ok:Bool} (h:(cKeys C S t x k||cKeysX C S t x k (oneX k))=true) (ha:aLookup C S t x k ok=some out):out.sd:=by
 unfold aLookup at ha
 split at ha
 ·cases ha
 ·next i hi =>
  split at ha
  ·next kt et hd =>
   split at ha
   ·cases ha
   ·split at ha
    ·injection ha with ha;subst ha
     rcases Bool.or_eq_true_iff.1 h with h|h
     ·unfold cKeys at h
      simp only [hi,hd] at h
      exact h
     ·unfold cKeysX at h
      simp only [hi,hd,Bool.false_eq_true] at h
    ·split at ha
     ·next hb =>
      injection ha with ha;subst ha
      rcases Bool.or_eq_true_iff.1 h with h|h
      ·unfold cKeys at h
       simp only [hi,hd,hb] at h
       exact keysB_ok h
      ·unfold cKeysX at h
       simp only [hi,hd,hb,boxX,Bool.false_eq_true] at h
     ·split at ha
      ·next es hb =>
       injection ha with ha;subst ha
       rcases Bool.or_eq_true_iff.1 h with h|h
       ·unfold cKeys at h
        simp only [hi,hd] at h
        cases h
       ·exact cKeysX_ok h hi hd hb
      ·cases ha
    ·cases ha
  ·cases ha
theorem cKeys_update {t:TypeId} {x k v:AVal} (h:(cKeys C S t x k||cKeysX C S t x k (freshX k))=true) (ha:aMapUpdate C S t x k v=some out):out.sd:=by
 unfold aMapUpdate at ha
 split at ha
 ·cases ha
 ·next i hi =>
  split at ha
  ·next kt et hd =>
   split at ha
   ·split at ha
    ·next hb =>
     injection ha with ha;subst ha
     rcases Bool.or_eq_true_iff.1 h with h|h
     ·unfold cKeys at h
      simp only [hi,hd,hb] at h
      exact keysB_ok h
     ·unfold cKeysX at h
      simp only [hi,hd,hb,boxX,Bool.false_eq_true] at h
    ·next hb =>
     injection ha with ha;subst ha
     rcases Bool.or_eq_true_iff.1 h with h|h
     ·unfold cKeys at h
      simp only [hi,hd,hb,Bool.false_eq_true] at h
     ·exact cKeysX_ok h hi hd (by rw [hb];rfl)
    ·cases ha
   ·cases ha
  ·cases ha
theorem cKeys_delete {t:TypeId} {x k:AVal} (h:cKeys C S t x k=true) (ha:aDelete C S t x k=some out):out.sd:=by
 unfold cKeys at h
 unfold aDelete at ha
 split at ha
 ·cases ha
 ·next i hi =>
  simp only [hi] at h
  split at ha
  ·next kt et hd =>
   simp only [hd] at h
   split at ha
   ·injection ha with ha;subst ha;exact h
   ·split at ha
    ·next hb =>
     simp only [hb] at h
     injection ha with ha;subst ha;exact keysB_ok h
    ·cases ha
   ·cases ha
  ·cases ha
theorem cKeys_entry {t:TypeId} {x k:AVal} (h:cKeys C S t x k=true) (ha:aMapEntry C S t x k=some out):out.sd:=by
 unfold cKeys at h
 unfold aMapEntry at ha
 split at ha
 ·cases ha
 ·next i hi =>
  simp only [hi] at h
  split at ha
  ·next kt et hd =>
   simp only [hd] at h
   split at ha
   ·cases ha
   ·split at ha
    ·split at ha
     ·next hb =>
      simp only [hb] at h
      injection ha with ha;subst ha;exact keysB_ok h
     ·cases ha
    ·cases ha
  ·cases ha
theorem cEntry_ok {it:AVal} (h:cEntry S it=true) (ha:aEntry S it=some out):out.sd:=by
 unfold cEntry at h
 unfold aEntry at ha
 split at ha
 ·split at ha
  ·next hk =>
   simp only [hk] at h
   split at ha
   ·next hm =>
    simp only [hm] at h
    split at ha
    ·split at ha
     ·injection ha with ha;subst ha;exact nbeq h
     ·cases ha
    ·cases ha
   ·cases ha
  ·cases ha
 ·cases ha
theorem cMake_ok {t:TypeId} {l c:AVal} (h:cMake C t l c=true) (ha:aMakeSlice C S t l c=some out):out.sd:=by
 unfold cMake at h
 unfold aMakeSlice at ha
 split at ha
 ·cases ha
 ·next i hi =>
  simp only [hi] at h
  split at ha
  ·next e hd =>
   simp only [hd] at h
   split at ha
   ·cases ha
   ·next j hj =>
    simp only [hj] at h
    split at ha
    ·next k n k' m =>
     simp only [Bool.and_eq_true,decide_eq_true_eq,isI64,beq_iff_eq] at h
     obtain ⟨⟨⟨⟨⟨h1,h2⟩,h3⟩,h4⟩,h5⟩,h6⟩:=h
     injection ha with ha;subst ha;exact ⟨by rw [h1],by rw [h2],h3,h4,h5,h6⟩
    ·cases ha
  ·cases ha
theorem cBin_ok {op:BinOp} {t:TypeId} {ox oy:Operand} {x y:AVal} (h:cBin C op t x y=true) (hn:∀ xs ys,¬ (x = .agg xs∧y = .agg ys)) (ha:aBin C S op t ox oy x y=some out):out.sd:=by
 unfold aBin at ha
 split at ha
 ·injection ha with ha;subst ha;exact of_decide_eq_true h
 ·injection ha with ha;subst ha;exact of_decide_eq_true h
 ·next k a k' b h1 h2 =>
  obtain ⟨⟨sd,r⟩,hb,rfl⟩:=Option.map_eq_some_iff.1 ha
  have hk:k=k':=by
   cases op<;>simp only [cBin,kindEq,Bool.and_eq_true,beq_iff_eq] at h<;>first|exact h.1|(exfalso;revert h1 h2;simp;done)
  refine ⟨hk,?_⟩
  cases op<;>simp only [intBin,Option.some.injEq,Prod.mk.injEq,reduceCtorEq] at hb
  all_goals obtain ⟨rfl,_⟩:=hb
  all_goals first|trivial|(simp [cBin] at h;exact h.2)
 ·next a b =>
  obtain ⟨⟨sd,r⟩,hb,rfl⟩:=Option.map_eq_some_iff.1 ha
  cases op<;>simp only [strBin,Option.some.injEq,Prod.mk.injEq,reduceCtorEq] at hb
  all_goals obtain ⟨rfl,_⟩:=hb
  all_goals first|trivial|exact of_decide_eq_true h
 ·split at ha
  ·split at ha
   ·injection ha with ha;subst ha;trivial
   ·injection ha with ha;subst ha;trivial
   ·cases ha
  ·cases ha
 ·next xs ys=>exact absurd ⟨rfl,rfl⟩ (hn xs ys)
 ·have key:cIfc C t=true:=by cases op<;>exact h
  have hex:∃ i m,C.T t=some i∧i.d = .interface m:=by
   unfold cIfc at key
   split at key
   ·next i hi =>
    split at key
    ·next m hd=>exact ⟨i,m,hi,hd⟩
    ·cases key
   ·cases key
  split at ha
  ·injection ha with ha;subst ha;exact hex
  ·injection ha with ha;subst ha;exact hex
  ·cases ha
 ·next h1 h2 h3 h4 h5 h6 h7 =>
  have key:cNil C t x y=true:=by
   unfold cBin at h
   split at h<;>first|exact h|(exfalso;first|exact h1 _ _ _ _ rfl rfl rfl|exact h1 _ _ _ _ rfl rfl|exact h1 _ _ rfl rfl|exact h1 rfl rfl|exact h2 _ _ _ _ rfl rfl rfl|exact h2 _ _ _ _ rfl rfl|exact h2 _ _ rfl rfl|exact h2 rfl rfl|exact h3 _ _ _ _ rfl rfl rfl|exact h3 _ _ _ _ rfl rfl|exact h3 _ _ rfl rfl|exact h3 rfl rfl|exact h4 _ _ _ _ rfl rfl rfl|exact h4 _ _ _ _ rfl rfl|exact h4 _ _ rfl rfl|exact h4 rfl rfl|exact h5 _ _ _ _ rfl rfl rfl|exact h5 _ _ _ _ rfl rfl|exact h5 _ _ rfl rfl|exact h5 rfl rfl|exact h6 _ _ _ _ rfl rfl rfl|exact h6 _ _ _ _ rfl rfl|exact h6 _ _ rfl rfl|exact h6 rfl rfl|exact h7 _ _ _ _ rfl rfl rfl|exact h7 _ _ _ _ rfl rfl|exact h7 _ _ rfl rfl|exact h7 rfl rfl)
  obtain ⟨i,hi,k1,k2⟩:=cNil_ok key
  simp only [hi] at ha
  split at ha
  ·injection ha with ha;subst ha;exact ⟨k1,k2⟩
  ·injection ha with ha;subst ha;exact ⟨k1,k2⟩
  ·cases ha
def xAgg (op:BinOp) (x y:AVal):Option Bool :=
 match x,y with
 |.agg xs,.agg ys=>match op with
  |.eql=>some (aeqs xs ys)
  |.neq=>some (!aeqs xs ys)
  |_=>none
 |_,_=>none
def isAgg2 (x y:AVal):Bool :=
 match x,y with
 |.agg _,.agg _=>true
 |_,_=>false
def xStep (C:Cx) (g:Nat→AVal) (S:St) (op:Op):Option (AVal × St) :=
 bif xchk C g S op then
  match op with
  |.binOp op t x y _=>bif isAgg2 (aEval C g x) (aEval C g y) then (xAgg op (aEval C g x) (aEval C g y)).map fun b=>(.bool b,S)
   else (aBin C S op t x y (aEval C g x) (aEval C g y)).map fun o=>(o.r,o.S)
  |op=>(aStep C op g S).map fun o=>(o.r,o.S)
 else none
theorem xchk_ok {op:Op} (hnb:∀ o t x y u,op ≠ .binOp o t x y u) (h:xchk C g S op=true) (ha:aStep C op g S=some out):out.sd:=by
 cases op<;>simp only [xchk] at h<;>try (cases h;done)
 case move x=>simp only [aStep,Option.some.injEq] at ha;subst ha;trivial
 case assign x=>simp only [aStep,Option.some.injEq] at ha;subst ha;trivial
 case pick c a b =>
  simp only [aStep] at ha
  split at ha
  ·injection ha with ha;subst ha;trivial
  ·cases ha
 case alloc t =>
  simp only [aStep] at ha
  split at ha
  ·injection ha with ha;subst ha;trivial
  ·cases ha
 case box t x=>simp only [aStep,Option.some.injEq] at ha;subst ha;exact okcB_ok h
 case build t parts =>
  simp only [aStep] at ha
  unfold cBuild at h
  split at ha
  ·next i hi =>
   simp only [hi,Bool.and_eq_true] at h
   split at ha
   ·injection ha with ha;subst ha
    refine ⟨h.1.1,fun n e hd=>?_,fun p hp=>okcB_ok (List.all_eq_true.1 h.2 p hp)⟩
    have:=h.1.2
    rw [hd] at this
    exact this
   ·cases ha
  ·cases ha
 case buildSlice t n parts =>
  simp only [aStep] at ha
  unfold cBuildSlice at h
  split at ha
  ·next i hi =>
   simp only [hi] at h
   split at ha
   ·next e hd =>
    simp only [hd] at h
    split at ha
    ·next j hj =>
     simp only [hj,Bool.and_eq_true,decide_eq_true_eq] at h
     split at ha
     ·injection ha with ha;subst ha
      exact ⟨h.1.1,h.1.2,fun p hp=>okcB_ok (List.all_eq_true.1 h.2 p hp)⟩
     ·cases ha
    ·cases ha
   ·cases ha
  ·cases ha
 case load t x=>exact cLoad_ok h ha
 case store t x v=>exact cStore_ok h ha
 case nilCheck x =>
  simp only [aStep] at ha
  split at ha<;>first|(cases ha;done)|(injection ha with ha;subst ha;trivial)
 case binOp o t x y u=>exact absurd rfl (hnb o t x y u)
 case unOp op t x =>
  simp only [aStep] at ha
  unfold aUn at ha
  split at ha<;>first|(cases ha;done)|(injection ha with ha;subst ha;trivial)
 case convert s d x=>exact cConvert_ok h ha
 case sliceToArrayPointer t x =>
  simp only [aStep] at ha
  unfold cS2a at h
  split at ha
  ·next i hi =>
   simp only [hi] at h
   split at ha
   ·next n e hd =>
    simp only [hd] at h
    split at ha
    ·next j hj =>
     simp only [hj] at h
     split at ha
     ·next hx =>
      simp only [hx,Bool.and_eq_true,decide_eq_true_eq] at h
      injection ha with ha;subst ha
      exact ⟨nbeq h.1.1.1.1,nbeq h.1.1.1.2,h.1.1.2,h.1.2,fun c hc=>List.all_eq_true.1 h.2 c hc⟩
     ·next hx =>
      simp only [hx,decide_eq_true_eq] at h
      injection ha with ha;subst ha;exact h
     ·cases ha
    ·cases ha
   ·cases ha
  ·cases ha
 case makeInterface t x=>simp only [aStep,Option.some.injEq] at ha;subst ha;exact h
 case makeFunc f as bs=>simp only [aStep,Option.some.injEq] at ha;subst ha;trivial
 case slice t x lo hi mx=>exact cSlice_ok h ha
 case fieldAddr t x k=>exact cFieldAddr_ok h ha
 case field t x k=>exact cField_ok h ha
 case indexAddr t x y=>exact cIndexAddr_ok h ha
 case index t x y=>exact cIndex_ok h ha
 case extract x k =>
  simp only [aStep] at ha
  split at ha
  ·next vs hv =>
   simp only [hv] at h
   injection ha with ha;subst ha;exact blt_iff.1 h
  ·cases ha
 case makeMap t r =>
  simp only [aStep,aMakeMap] at ha
  split at ha
  ·injection ha with ha;subst ha;trivial
  ·cases ha
 case insert t m k x=>exact cKeys_update h ha
 case mapUpdate t m k x=>exact cKeys_update h ha
 case lookup t m k ok=>exact cKeys_lookup h ha
 case mapEntry t m k=>exact cKeys_entry h ha
 case entryStore t m k x =>
  simp only [aStep,aEntryStore] at ha
  split at ha
  ·split at ha
   ·split at ha
    ·injection ha with ha;subst ha;trivial
    ·cases ha
   ·cases ha
  ·cases ha
 case next x b =>
  cases b with
  |false=>simp only [aStep] at ha;cases ha
  |true =>
   simp only [aStep,aNextS] at ha
   split at ha
   ·split at ha
    ·split at ha
     ·split at ha
      ·injection ha with ha;subst ha;trivial
      ·cases ha
     ·injection ha with ha;subst ha;trivial
    ·cases ha
   ·cases ha
 case range t x =>
  simp only [aStep,aRange] at ha
  split at ha
  ·cases ha
  ·split at ha
   ·split at ha
    ·injection ha with ha;subst ha;trivial
    ·cases ha
   ·split at ha
    ·injection ha with ha;subst ha;trivial
    ·split at ha
     ·injection ha with ha;subst ha;trivial
     ·injection ha with ha;subst ha;trivial
     ·cases ha
    ·cases ha
   ·cases ha
 case entry x=>exact cEntry_ok h ha
 case makeSlice t l c=>exact cMake_ok h ha
 case call c =>
  simp only [aStep] at ha
  split at h
  ·next b hb =>
   simp only [hb] at ha
   split at h
   ·next e1 e2 =>
    rw [e1,e2] at ha
    simp only [aBuiltin,aLen] at ha
    repeat' (split at ha)
    all_goals first|(cases ha;done)|(injection ha with ha;subst ha;trivial)
   ·next e1 e2 =>
    rw [e1,e2] at ha
    simp only [aBuiltin] at ha
    split at h
    ·exact cAppend0_ok h ha
    ·next hne =>
     split at ha
     ·exact (hne _ _ _ _ rfl rfl).elim
     ·exact cAppend_ok h ha
   ·next e1 e2 =>
    rw [e1,e2] at ha
    simp only [aBuiltin,aCap] at ha
    repeat' (split at ha)
    all_goals first|(cases ha;done)|(injection ha with ha;subst ha;trivial)
   ·next e1 e2=>rw [e1,e2] at ha;exact cCopy_ok (tx:=0) h ha
   ·next e1 e2=>rw [e1,e2] at ha;exact cKeys_delete h ha
   ·simp only [aBuiltin] at ha
    obtain ⟨r,_,rfl⟩:=Option.map_eq_some_iff.1 ha
    trivial
   ·simp only [aBuiltin] at ha
    obtain ⟨r,_,rfl⟩:=Option.map_eq_some_iff.1 ha
    trivial
   ·cases h
  ·cases h
theorem xStep_ok {op:Op} {r:AVal} {S':St} (h:xStep C g S op=some (r,S')):∃ sd,aStep C op g S=some ⟨sd,r,S'⟩∧sd:=by
 unfold xStep at h
 cases hc:xchk C g S op with
 |false=>rw [hc] at h;cases h
 |true =>
  rw [hc] at h
  simp only [cond_true] at h
  split at h
  ·next op t x y u =>
   simp only [xchk] at hc
   cases ha:isAgg2 (aEval C g x) (aEval C g y) with
   |false =>
    rw [ha] at h
    simp only [cond_false] at h
    obtain ⟨o,ho,he⟩:=Option.map_eq_some_iff.1 h
    injection he with e1 e2
    subst e1 e2
    refine ⟨o.sd,ho,cBin_ok hc (fun xs ys e=>?_) ho⟩
    rw [e.1,e.2] at ha
    cases ha
   |true =>
    rw [ha] at h
    simp only [cond_true] at h
    obtain ⟨b,hb,he⟩:=Option.map_eq_some_iff.1 h
    injection he with e1 e2
    subst e1 e2
    unfold isAgg2 at ha
    split at ha
    ·next xs ys e1 e2 =>
     rw [e1,e2] at hc hb
     simp only [aStep,e1,e2]
     have hcc:cAgg C t xs ys=true:=by cases op<;>exact hc
     unfold cAgg at hcc
     split at hcc
     ·next i hi =>
      simp only [Bool.and_eq_true,Bool.not_eq_true'] at hcc
      have hd:=aeqs_decide hcc.1.2 hcc.2
      unfold xAgg at hb
      simp only at hb
      split at hb
      ·injection hb with hb
       subst hb
       refine Exists.intro (i.isAgg=true∧flatT C.P C.T 20 t=true∧C.P.eqGuardType C.P.depth t=false∧skbs xs i.zero=true∧skbs ys i.zero=true) ⟨?_,hcc.1.1.1.1,hcc.1.1.1.2,hcc.1.1.2,hcc.1.2,hcc.2⟩
       simp only [aBin,hi]
       rw [hd]
      ·injection hb with hb
       subst hb
       refine Exists.intro (i.isAgg=true∧flatT C.P C.T 20 t=true∧C.P.eqGuardType C.P.depth t=false∧skbs xs i.zero=true∧skbs ys i.zero=true) ⟨?_,hcc.1.1.1.1,hcc.1.1.1.2,hcc.1.1.2,hcc.1.2,hcc.2⟩
       simp only [aBin,hi]
       rw [hd]
      ·cases hb
     ·cases hcc
    ·cases ha
  ·next hnb =>
   obtain ⟨o,ho,he⟩:=Option.map_eq_some_iff.1 h
   injection he with e1 e2
   subst e1 e2
   exact ⟨o.sd,ho,xchk_ok (fun o t x y u e=>hnb o t x y u e) hc ho⟩
end
end
end Go.Am
end
section
namespace Go.Am
open Go
noncomputable section
inductive XE
 |nrm
 |ext (id:Nat)
 |ret
def XE.ex:XE→Exit
 |.nrm=>.normal
 |.ext id=>.exit id
 |.ret=>.ret
def xget:Fr→Nat→AVal
 |[],_=>.any
 |(k,v)::r,t=>bif Nat.beq t k then v else xget r t
def xput:Fr→Nat→AVal→Fr
 |[],k,v=>[(k,v)]
 |(j,w)::r,k,v=>bif Nat.beq j k then (k,v)::r else (j,w)::xput r k v
def xputO (fr:Fr) (d:Option Nat) (v:AVal):Fr :=
 match d with
 |some k=>xput fr k v
 |none=>fr
theorem xget_eq:∀ (fr:Fr) (t:Nat),xget fr t=fr.get t
 |[],_=>rfl
 |(k,v)::r,t=>by
  simp only [xget,Fr.get]
  cases h:Nat.beq t k with
  |true=>rw [if_pos (nbeq h)];rfl
  |false=>rw [if_neg (fun e=>by rw [e] at h;simp at h),xget_eq r t];rfl
theorem xput_get:∀ (fr:Fr) (k:Nat) (v:AVal) (t:Nat),(xput fr k v).get t=if t=k then v else fr.get t
 |[],k,v,t=>by simp [xput,Fr.get]
 |(j,w)::r,k,v,t=>by
  simp only [xput]
  cases h:Nat.beq j k with
  |true =>
   have e:=nbeq h
   subst e
   simp only [cond_true,Fr.get]
   split<;>rfl
  |false =>
   have hne:j≠k:=fun e=>by rw [e] at h;simp at h
   simp only [cond_false,Fr.get,xput_get r k v t]
   by_cases e1:t=j
   ·subst e1;rw [if_pos rfl,if_neg hne,if_pos rfl]
   ·rw [if_neg e1,if_neg e1]
theorem xputO_get (fr:Fr) (d:Option Nat) (v:AVal):(xputO fr d v).get=upd fr.get d v:=by
 cases d with
 |none=>rfl
 |some k=>funext t;exact xput_get fr k v t
theorem xget_fun (fr:Fr):(fun t=>xget fr t)=fr.get:=funext (xget_eq fr)
def xWant (gd:Option (Option Nat × Bool)) (fr:Fr):Option Bool :=
 match gd with
 |none=>some true
 |some (none,_)=>none
 |some (some d,want)=>match xget fr d with
  |.bool b=>some (b==want)
  |.raw v=>match v with
   |.tuple _=>some false
   |_=>none
  |_=>none
theorem xWant_eq {gd:Option (Option Nat × Bool)} {fr:Fr}:xWant gd fr=wantL gd fr:=by
 unfold xWant wantL
 split
 ·rfl
 ·rfl
 ·next d w =>
  rw [xget_eq]
  rfl
abbrev Fuel:=FuncId→List AVal→St→Option (AVal × St)
abbrev FuelY:=Nat→List AVal→St→Option (AVal × St)
def xOp (C:Cx) (X:Fuel) (Y:FuelY) (op:Op) (fr:Fr) (S:St):Option (AVal × St) :=
 match op with
 |.call ⟨.value x,xs,_⟩=>match aEval C (fun t=>xget fr t) x with
  |.fn (.func f) as bs=>X f (as++xs.toList.map (aEval C fun t=>xget fr t)++bs) S
  |.yld i=>Y i (xs.toList.map (aEval C fun t=>xget fr t)) S
  |_=>none
 |op=>xStep C (fun t=>xget fr t) S op
def XOk (C:Cx) (X:Fuel):Prop:=∀ f args S r S',X f args S=some (r,S')→CallX C f args S r S'
def YOk (C:Cx) (Y:FuelY):Prop:=∀ i args S r S',Y i args S=some (r,S')→AYield C i args S r S'
theorem xOp_ok {C:Cx} {X:Fuel} {Y:FuelY} (hX:XOk C X) (hY:YOk C Y) {o:Oper} {fr:Fr} {S:St} {r:AVal} {S':St} (h:xOp C X Y o.op fr S=some (r,S')):StepX C o fr.get S r S':=by
 unfold xOp at h
 rw [xget_fun] at h
 split at h
 ·next x xs ts ho =>
  split at h
  ·next f as bs hf=>exact .call x xs ts f as bs r S' ho hf (hX _ _ _ _ _ h)
  ·next i hf=>exact .yield x xs ts i r S' ho hf (hY _ _ _ _ _ h)
  ·cases h
 ·obtain ⟨sd,h1,h2⟩:=xStep_ok h
  exact .step ⟨sd,r,S'⟩ h1 h2
def xL (C:Cx) (X:Fuel) (Y:FuelY):List LO→Fr→St→Option (Fr × St)
 |[],fr,S=>some (fr,S)
 |o::rest,fr,S=>match xWant o.gd fr with
  |none=>none
  |some false=>xL C X Y rest (xputO fr o.d (.raw undef)) S
  |some true=>match xOp C X Y o.op fr S with
   |none=>none
   |some (r,S')=>xL C X Y rest (xputO fr o.d r) S'
theorem xL_run {C:Cx} {N:Nat} {X:Fuel} {Y:FuelY} (hX:XOk C X) (hY:YOk C Y) {ops:Array Oper}:∀ (l:List Oper) (fr:Fr) (S:St) (fr':Fr) (S':St),(∀ o∈l,dstB N o=true) →
  xL C X Y (l.map (liteO ops)) fr S=some (fr',S')→ARun C ops N none l fr.get S fr'.get S':=by
 intro l
 induction l with
 |nil =>
  intro fr S fr' S' _ h
  simp only [List.map_nil,xL,Option.some.injEq,Prod.mk.injEq] at h
  obtain ⟨rfl,rfl⟩:=h
  exact .nil _ _
 |cons o l ih =>
  intro fr S fr' S' hd h
  simp only [List.map_cons,xL] at h
  rw [xWant_eq,wantL_eq] at h
  have hdo:∀ k,o.dst=some k→k<N:=fun k hk=>by
   have:=hd o (List.mem_cons_self ..)
   simp only [dstB,hk,decide_eq_true_eq] at this
   exact this
  have hd':∀ o∈l,dstB N o=true:=fun o ho=>hd o (List.mem_cons_of_mem _ ho)
  split at h
  ·cases h
  ·next hw =>
   have:=ih _ _ _ _ hd' h
   rw [xputO_get] at this
   exact .skip o l _ S _ _ hw hdo this
  ·next hw =>
   split at h
   ·cases h
   ·next r S1 ho =>
    have:=ih _ _ _ _ hd' h
    rw [xputO_get] at this
    exact .run o l _ S r S1 _ _ hw hdo (xOp_ok hX hY (o:=o) ho) trivial this
def mk0 (fx:Bool):ABox:=bif fx then .mpx [] 0 else .mp [] 0
def sl0 (C:Cx) (t:TypeId) (m:Int):ABox:=match C.T t with
 |some i=>match i.d with
  |.slice e=>match C.T e with
   |some j=>.cells (List.replicate m.toNat j.zero).flatten e
   |none=>.hole
  |_=>.hole
 |none=>.hole
def xHoles (C:Cx) (fx:Bool):List LO→Nat→Holes
 |[],_=>[]
 |o::rest,k=>match o.op with
  |.alloc t=>(match C.T t with|some i=>(k,.cells i.zero t)|none=>(k,.hole))::xHoles C fx rest (k+1)
  |.makeMap _ _=>(k,mk0 fx)::xHoles C fx rest (k+1)
  |.makeSlice t (.const (.int .i64 _)) (.const (.int .i64 m))=>(k,sl0 C t m)::xHoles C fx rest (k+1)
  |_=>xHoles C fx rest k
def isMk:Op→Bool
 |.alloc _=>true
 |.makeMap _ none=>true
 |.makeSlice _ l c=>constI l&&constI c
 |_=>false
def xMk (C:Cx) (fx:Bool) (op:Op) (k:Nat) (S:St):Option (AVal × St × ABox) :=
 match S[k]? with
 |some .hole=>match op with
  |.alloc t=>match C.T t with
   |some i=>some (.ptr k 0,S.set k (.cells i.zero t),.cells i.zero t)
   |none=>none
  |.makeMap _ none=>some (.map k,S.set k (mk0 fx),mk0 fx)
  |.makeSlice t (.const (.int .i64 n)) (.const (.int .i64 m))=>match C.T t with
   |some i=>match i.d with
    |.slice e=>match C.T e with
     |some j=>bif decide (0≤n)&&decide (n≤m)&&decide (m≤9223372036854775807)&&decide (j.bytes*m.toNat≤140737488355328) then
       some (.view k 0 n.toNat m.toNat,S.set k (.cells (List.replicate m.toNat j.zero).flatten e),.cells (List.replicate m.toNat j.zero).flatten e)
      else none
     |none=>none
    |_=>none
   |none=>none
  |_=>none
 |_=>none
def inL (B:List Nat) (b:Nat):Bool:=B.any fun x=>Nat.beq x b
def keptB (U:UL) (B:List (Option Nat × Nat)) (d:Option Nat) (S S':St):Bool:=B.all fun e => !inU U e.1 d||match S[e.2]?,S'[e.2]? with
 |some x,some y=>beqB y x
 |none,none=>true
 |_,_=>false
def isHole:Option ABox→Bool
 |some .hole=>true
 |_=>false
def keptH (H:Holes) (S S':St):Bool:=H.all fun e => !isHole S'[e.1]? || isHole S[e.1]?
def xFill (C:Cx) (X:Fuel) (Y:FuelY) (H:Holes) (op:Op) (fr:Fr) (S:St) (r:AVal) (S':St):Bool :=
 match H.filter fun e=>isHole S[e.1]? with
 |[]=>true
 |[e]=>match xOp C X Y op fr (S.set e.1 e.2) with
  |some (r2,T)=>veq r2 r&&seq T (S'.set e.1 e.2) && !isHole (some e.2)
  |none=>false
 |_=>false
def xPlOp (C:Cx) (PL:FuncId→List AVal→Option AVal) (op:Op) (fr:Fr):Option AVal :=
 match op with
 |.call ⟨.value x,xs,_⟩=>match aEval C (fun t=>xget fr t) x with
  |.fn (.func f) as bs=>PL f (as++xs.toList.map (aEval C fun t=>xget fr t)++bs)
  |_=>none
 |_=>none
def PLOk (C:Cx) (PL:FuncId→List AVal→Option AVal):Prop:=∀ f args r,PL f args=some r→∀ S,CallX C f args S r S
structure Lg where
 rd:List (Option Nat × Nat)
 wr:List (Option Nat × St × St)
def insB (C:Cx) (fx:Bool) (S:St) (op:Op) (fr:Fr):Bool :=
 bif fx&&isIns op then match op with
  |.insert _ m _ _=>match aEval C (fun t=>xget fr t) m with
   |.map b=>match S[b]? with
    |some (.mpx _ _)=>true
    |_=>false
   |_=>false
  |_=>false
 else true
theorem insB_ok {C:Cx} {fx:Bool} {S:St} {o:Oper} {fr:Fr} (h:insB C fx S o.op fr=true) (hf:fx=true) (hi:isIns o.op=true):insX C o fr.get S:=by
 unfold insB at h
 rw [hf,hi] at h
 simp only [Bool.and_self,cond_true] at h
 split at h
 ·next t m k v ho =>
  rw [xget_fun] at h
  split at h
  ·next b hb =>
   split at h
   ·next es c hS=>exact ⟨t,m,k,v,b,es,c,ho,hb,hS⟩
   ·cases h
  ·cases h
 ·cases h
def xLB (C:Cx) (X:Fuel) (Y:FuelY) (PL:FuncId→List AVal→Option AVal) (fx:Bool) (H:Holes):List LO→Nat→Fr→St→Option (Fr × St × Lg)
 |[],_,fr,S=>some (fr,S,⟨[],[]⟩)
 |o::rest,k,fr,S=>match xWant o.gd fr with
  |none=>none
  |some false=>xLB C X Y PL fx H rest (bif isMk o.op then k+1 else k) (xputO fr o.d (.raw undef)) S
  |some true=>bif isMk o.op then
    match xMk C fx o.op k S with
    |none=>none
    |some (r,S',x)=>bif (H.any fun e=>Nat.beq e.1 k&&beqB e.2 x) && !isHole (some x) then
      match xLB C X Y PL fx H rest (k+1) (xputO fr o.d r) S' with
      |some (fr2,S2,L)=>some (fr2,S2,⟨L.rd,(o.d,S,S')::L.wr⟩)
      |none=>none
     else none
   else match xPlOp C PL o.op fr with
    |some r=>xLB C X Y PL fx H rest k (xputO fr o.d r) S
    |none=>match xOp C X Y o.op fr S with
     |none=>none
     |some (r,S')=>match cls C o.op with
      |0=>xLB C X Y PL fx H rest k (xputO fr o.d r) S'
      |1=>match loadBox C o.op (fun t=>xget fr t) with
       |none=>xLB C X Y PL fx H rest k (xputO fr o.d r) S'
       |some b=>match xLB C X Y PL fx H rest k (xputO fr o.d r) S' with
        |some (fr2,S2,L)=>some (fr2,S2,⟨(o.d,b)::L.rd,L.wr⟩)
        |none=>none
      |2=>bif insB C fx S o.op fr&&(keptH H S S'&&xFill C X Y H o.op fr S r S') then
        match xLB C X Y PL fx H rest k (xputO fr o.d r) S' with
        |some (fr2,S2,L)=>some (fr2,S2,⟨L.rd,(o.d,S,S')::L.wr⟩)
        |none=>none
       else none
      |_=>none
def okLg (U:UL) (L:Lg):Bool:=L.wr.all fun w=>keptB U L.rd w.1 w.2.1 w.2.2
def xLR (C:Cx) (X:Fuel) (Y:FuelY) (PL:FuncId→List AVal→Option AVal) (U:UL) (H:Holes) (l:List LO) (k:Nat) (fr:Fr) (S:St):Option (Fr × St) :=
 match xLB C X Y PL (inU U none none) H l k fr S with
 |some (fr',S',L)=>bif okLg U L then some (fr',S') else none
 |none=>none
theorem inL_ok {B:List Nat} {b:Nat} (h:inL B b=true):b∈B:=by
 unfold inL at h
 obtain ⟨x,hx,he⟩:=List.any_eq_true.1 h
 exact nbeq he▸hx
theorem inO_self (a:Option Nat):inO a a=true:=by
 cases a with
 |none=>rfl
 |some x=>simp [inO]
theorem inU_of {U:UL} {a b:Option Nat} (h:(a,b)∈U):inU U a b=true :=
 List.any_eq_true.2 ⟨_,h,by simp [inO_self]⟩
theorem isHole_iff {x:Option ABox}:isHole x=true↔x=some .hole:=by
 unfold isHole
 split
 ·simp
 ·next h=>simp only [Bool.false_eq_true,false_iff];exact h
theorem keptB_ok {U:UL} {B:List (Option Nat × Nat)} {d:Option Nat} {S S':St} (h:keptB U B d S S'=true):∀ e∈B,(e.1,d)∈U→S'[e.2]? = S[e.2]?:=by
 intro e he hu
 have:=List.all_eq_true.1 h e he
 rw [inU_of hu] at this
 simp only [Bool.not_true,Bool.false_or] at this
 split at this
 ·next h1 h2=>rw [h1,h2,beqB_ok this]
 ·next h1 h2=>rw [h1,h2]
 ·cases this
theorem keptH_ok {H:Holes} {S S':St} (h:keptH H S S'=true):∀ e∈H,S'[e.1]? = some .hole→S[e.1]? = some .hole:=by
 intro e he hh
 have:=List.all_eq_true.1 h e he
 simp only [Bool.or_eq_true,Bool.not_eq_true'] at this
 rcases this with h|h
 ·rw [isHole_iff.2 hh] at h;cases h
 ·exact isHole_iff.1 h
theorem fill_same {e:Nat × ABox}:∀ (L:Holes) (S:St),(∀ x∈L,x=e)→L≠[]→fill S L=S.set e.1 e.2
 |[],_,_,h=>absurd rfl h
 |[x],S,h,_=>by
  obtain rfl:=h x (List.mem_cons_self ..)
  rfl
 |x::y::L,S,h,_=>by
  obtain rfl:=h x (List.mem_cons_self ..)
  have:=fill_same (y::L) (S.set x.1 x.2) (fun z hz=>h z (List.mem_cons_of_mem _ hz)) (by simp)
  rw [fill,this,List.set_set]
theorem xFill_ok {C:Cx} {X:Fuel} {Y:FuelY} (hX:XOk C X) (hY:YOk C Y) {H:Holes} {o:Oper} {fr:Fr} {S S':St} {r:AVal} (h0:StepX C o fr.get S r S') (h:xFill C X Y H o.op fr S r S'=true) :
  ∀ L:Holes,(∀ e∈L,e∈H∧S[e.1]? = some .hole)→StepX C o fr.get (fill S L) r (fill S' L):=by
 intro L hL
 unfold xFill at h
 have hmem:∀ e∈L,e∈H.filter fun e=>isHole S[e.1]?:=fun e he=>List.mem_filter.2 ⟨(hL e he).1,isHole_iff.2 (hL e he).2⟩
 split at h
 ·next hf =>
  rw [hf] at hmem
  have:L=[]:=by
   cases L with
   |nil=>rfl
   |cons e L=>have:=hmem e (List.mem_cons_self ..);simp at this
  subst this
  exact h0
 ·next e hf =>
  rw [hf] at hmem
  have hall:∀ x∈L,x=e:=fun x hx=>by simpa using hmem x hx
  split at h
  ·next r2 T hx =>
   simp only [Bool.and_eq_true] at h
   obtain ⟨⟨h1,h2⟩,_⟩:=h
   obtain rfl:=veq_ok _ _ h1
   obtain rfl:=seq_ok h2
   by_cases hn:L=[]
   ·subst hn;exact h0
   ·rw [fill_same L S hall hn,fill_same L S' hall hn]
    exact xOp_ok hX hY (o:=o) hx
  ·cases h
 ·cases h
theorem xMk_ok {C:Cx} {o:Oper} {g:Nat→AVal} {k:Nat} {S S':St} {r:AVal} {x:ABox} {fx:Bool} (h:xMk C fx o.op k S=some (r,S',x)):S[k]? = some .hole∧S'=S.set k x∧∀ U:St,U[k]? = some .hole→StepX C o g U r (U.set k x):=by
 unfold xMk at h
 split at h
 ·next hk =>
  split at h
  ·next t ho =>
   split at h
   ·next i hi =>
    injection h with h
    simp only [Prod.mk.injEq] at h
    obtain ⟨rfl,rfl,rfl⟩:=h
    exact ⟨hk,rfl,fun U hU=>.fillA k t i ho hi hU⟩
   ·cases h
  ·next t ho =>
   injection h with h
   simp only [Prod.mk.injEq] at h
   obtain ⟨rfl,rfl,rfl⟩:=h
   refine ⟨hk,rfl,fun U hU=>?_⟩
   cases fx with
   |true=>exact .fillX k t ho hU
   |false=>exact .fillM k t ho hU
  ·next t n m ho =>
   split at h
   ·next i hi =>
    split at h
    ·next e hd =>
     split at h
     ·next j hj =>
      cases hb:(decide (0≤n)&&decide (n≤m)&&decide (m≤9223372036854775807)&&decide (j.bytes*m.toNat≤140737488355328)) with
      |false=>rw [hb] at h;cases h
      |true =>
       rw [hb] at h
       simp only [cond_true] at h
       simp only [Bool.and_eq_true,decide_eq_true_eq] at hb
       injection h with h
       simp only [Prod.mk.injEq] at h
       obtain ⟨rfl,rfl,rfl⟩:=h
       exact ⟨hk,rfl,fun U hU=>.fillS k t e i j n m ho hi hd hj ⟨hb.1.1.1,hb.1.1.2,hb.1.2,hb.2⟩ hU⟩
     ·cases h
    ·cases h
   ·cases h
  ·cases h
 ·cases h
theorem isMk_cls {C:Cx} {op:Op} (h:isMk op=true):cls C op=3:=by
 unfold isMk at h
 split at h<;>first|rfl|(cases h;done)|(simp only [cls];rw [if_pos h])
theorem loadBox_mk {C:Cx} {op:Op} {g:Nat→AVal} (h:isMk op=true):loadBox C op g=none:=by
 unfold isMk at h
 split at h<;>first|rfl|(cases h;done)
theorem loadBox_cls {C:Cx} {op:Op} {g:Nat→AVal} {b:Nat} (h:loadBox C op g=some b):cls C op=1:=by
 cases op
 case convert s d a =>
  simp only [loadBox] at h
  split at h
  ·split at h
   ·next hb=>simp only [cls,hb,if_true]
   ·cases h
  ·cases h
 all_goals first|rfl|(simp only [loadBox] at h;cases h;done)
theorem xPlOp_ok {C:Cx} {PL:FuncId→List AVal→Option AVal} (hP:PLOk C PL) {o:Oper} {fr:Fr} {r:AVal} (h:xPlOp C PL o.op fr=some r):(∀ S,StepX C o fr.get S r S)∧cls C o.op≠3∧cls C o.op≠1:=by
 unfold xPlOp at h
 rw [xget_fun] at h
 split at h
 ·next x xs ts ho =>
  split at h
  ·next f as bs hf =>
   refine ⟨fun S=>.call x xs ts f as bs r S ho hf (hP _ _ _ h S),?_⟩
   rw [ho]
   simp only [cls]
   split
   ·simp_all
   ·split<;>decide
   ·decide
  ·cases h
 ·cases h
theorem xPlOp_ins {C:Cx} {PL:FuncId→List AVal→Option AVal} {o:Oper} {fr:Fr} {r:AVal} (h:xPlOp C PL o.op fr=some r):¬ isIns o.op=true:=by
 unfold xPlOp at h
 split at h
 ·next ho=>rw [ho];exact fun h=>by cases h
 ·cases h
theorem xLB_run {C:Cx} {N:Nat} {X:Fuel} {Y:FuelY} {PL:FuncId→List AVal→Option AVal} (hX:XOk C X) (hY:YOk C Y) (hP:PLOk C PL) {ops:Array Oper} {U:UL} {B:List (Option Nat × Nat)} {H:Holes}:∀ (l:List Oper) (k:Nat) (fr:Fr) (S:St) (fr':Fr) (S':St) (L:Lg),(∀ o∈l,dstB N o=true) →
  xLB C X Y PL (inU U none none) H (l.map (liteO ops)) k fr S=some (fr',S',L)→(∀ e∈L.rd,e∈B)→(∀ w∈L.wr,keptB U B w.1 w.2.1 w.2.2=true)→ARun C ops N (some (U,B,H)) l fr.get S fr'.get S':=by
 intro l
 induction l with
 |nil =>
  intro k fr S fr' S' L _ h _ _
  simp only [List.map_nil,xLB,Option.some.injEq,Prod.mk.injEq] at h
  obtain ⟨rfl,rfl,_⟩:=h
  exact .nil _ _
 |cons o l ih =>
  intro k fr S fr' S' L hd h hB hW
  simp only [List.map_cons,xLB] at h
  rw [xWant_eq,wantL_eq,xget_fun] at h
  have hdo:∀ k,o.dst=some k→k<N:=fun k hk=>by
   have:=hd o (List.mem_cons_self ..)
   simp only [dstB,hk,decide_eq_true_eq] at this
   exact this
  have hd':∀ o∈l,dstB N o=true:=fun o ho=>hd o (List.mem_cons_of_mem _ ho)
  split at h
  ·cases h
  ·next hw =>
   have:=ih _ _ _ _ _ _ hd' h hB hW
   rw [xputO_get] at this
   exact .skip o l _ S _ _ hw hdo this
  ·next hw =>
   cases hm:isMk o.op with
   |true =>
    have hm':isMk (liteO ops o).op=true:=hm
    rw [hm'] at h
    simp only [cond_true] at h
    split at h
    ·cases h
    ·next r S1 x hx =>
     cases hb:((H.any fun e=>Nat.beq e.1 k&&beqB e.2 x) && !isHole (some x)) with
     |false=>rw [hb] at h;cases h
     |true =>
      rw [hb] at h
      simp only [cond_true] at h
      simp only [Bool.and_eq_true,Bool.not_eq_true'] at hb
      obtain ⟨b1,b2⟩:=hb
      obtain ⟨e,he,hek⟩:=List.any_eq_true.1 b1
      simp only [Bool.and_eq_true] at hek
      have hin:(k,x)∈H:=by
       have e1:=nbeq hek.1
       have e2:=beqB_ok hek.2
       obtain ⟨a,b⟩:=e
       simp only at e1 e2
       rw [← e1,← e2];exact he
      have hxn:x ≠ .hole:=fun e=>by rw [e] at b2;cases b2
      obtain ⟨k1,k2,k3⟩:=xMk_ok (o:=o) (g:=fr.get) hx
      split at h
      ·next fr2 S2 L2 hr =>
       injection h with h
       simp only [Prod.mk.injEq] at h
       obtain ⟨rfl,rfl,rfl⟩:=h
       have:=ih _ _ _ _ _ _ hd' hr hB (fun w hw=>hW w (List.mem_cons_of_mem _ hw))
       rw [xputO_get] at this
       have hkeep:=keptB_ok (hW _ (List.mem_cons_self ..))
       refine .run o l _ S r S1 _ _ hw hdo (k2▸k3 S k1) ⟨fun b hb=>?_,hkeep,fun _=>⟨k,x,hin,hxn,k1,k2,k3⟩,fun hc=>?_,fun _ hi=>?_⟩ this
       ·rw [loadBox_mk hm] at hb;cases hb
       ·rw [isMk_cls hm] at hc;cases hc
       ·have hc:=isIns_cls (C:=C) hi
        rw [isMk_cls hm] at hc;cases hc
      ·cases h
   |false =>
    have hm':isMk (liteO ops o).op=false:=hm
    rw [hm'] at h
    simp only [cond_false] at h
    split at h
    ·next r hpl =>
     obtain ⟨p1,p2,p3⟩:=xPlOp_ok hP (o:=o) hpl
     have:=ih _ _ _ _ _ _ hd' h hB hW
     rw [xputO_get] at this
     exact .run o l _ S r S _ _ hw hdo (p1 S) ⟨fun b hb=>absurd (loadBox_cls hb) p3,fun _ _ _=>rfl,fun hc=>absurd hc p2,fun _=>⟨fun _ _ h=>h,fun L _=>p1 _⟩,fun _ hi=>absurd hi (xPlOp_ins (o:=o) hpl)⟩ this
    split at h
    ·cases h
    ·next r S1 hx =>
     have hstep:=xOp_ok hX hY (o:=o) hx
     have ecl:cls C (liteO ops o).op=cls C o.op:=rfl
     rw [ecl] at h
     rcases cls_cases C o.op with h0|h0|h0|h0
     ·rw [h0] at h
      have:=ih _ _ _ _ _ _ hd' h hB hW
      rw [xputO_get] at this
      have e:=(hstep.pure h0).1
      subst e
      exact .run o l _ _ r _ _ _ hw hdo hstep ⟨fun b hb=>(by have:=loadBox_cls hb;rw [h0] at this;cases this),fun _ _ _=>rfl,fun hc=>(by rw [h0] at hc;cases hc),fun hc=>(by rw [h0] at hc;cases hc),fun _ hi=>(by rw [isIns_cls hi] at h0;cases h0)⟩ this
     ·rw [h0] at h
      have e:=hstep.reads h0
      subst e
      simp only at h
      split at h
      ·next hl =>
       have:=ih _ _ _ _ _ _ hd' h hB hW
       rw [xputO_get] at this
       exact .run o l _ _ r _ _ _ hw hdo hstep ⟨fun b hb=>(by have e:loadBox C (liteO ops o).op fr.get=some b:=hb;rw [hl] at e;cases e),fun _ _ _=>rfl,fun hc=>(by rw [h0] at hc;cases hc),fun hc=>(by rw [h0] at hc;cases hc),fun _ hi=>(by rw [isIns_cls hi] at h0;cases h0)⟩ this
      ·next b hl =>
       split at h
       ·next fr2 S2 L2 hr =>
        injection h with h
        simp only [Prod.mk.injEq] at h
        obtain ⟨rfl,rfl,rfl⟩:=h
        have:=ih _ _ _ _ _ _ hd' hr (fun e he=>hB e (List.mem_cons_of_mem _ he)) hW
        rw [xputO_get] at this
        refine .run o l _ _ r _ _ _ hw hdo hstep ⟨fun b' hb=>?_,fun _ _ _=>rfl,fun hc=>(by rw [h0] at hc;cases hc),fun hc=>(by rw [h0] at hc;cases hc),fun _ hi=>(by rw [isIns_cls hi] at h0;cases h0)⟩ this
        have e:loadBox C (liteO ops o).op fr.get=some b':=hb
        rw [hl] at e
        injection e with e
        subst e
        exact hB _ (List.mem_cons_self ..)
       ·cases h
     ·rw [h0] at h
      simp only at h
      cases hb:(insB C (inU U none none) S (liteO ops o).op fr&&(keptH H S S1&&xFill C X Y H (liteO ops o).op fr S r S1)) with
      |false=>rw [hb] at h;cases h
      |true =>
       rw [hb] at h
       simp only [cond_true] at h
       simp only [Bool.and_eq_true] at hb
       split at h
       ·next fr2 S2 L2 hr =>
        injection h with h
        simp only [Prod.mk.injEq] at h
        obtain ⟨rfl,rfl,rfl⟩:=h
        have:=ih _ _ _ _ _ _ hd' hr hB (fun w hw=>hW w (List.mem_cons_of_mem _ hw))
        rw [xputO_get] at this
        have hkeep:=keptB_ok (hW _ (List.mem_cons_self ..))
        exact .run o l _ S r S1 _ _ hw hdo hstep ⟨fun b hb=>(by have:=loadBox_cls hb;rw [h0] at this;cases this),hkeep,fun hc=>(by rw [h0] at hc;cases hc),fun _=>⟨keptH_ok hb.2.1,xFill_ok hX hY hstep hb.2.2⟩,fun hu hi=>insB_ok hb.1 (inU_of hu) hi⟩ this
       ·cases h
     ·rw [h0] at h;cases h
theorem xLR_run {C:Cx} {N:Nat} {X:Fuel} {Y:FuelY} {PL:FuncId→List AVal→Option AVal} (hX:XOk C X) (hY:YOk C Y) (hP:PLOk C PL) {ops:Array Oper} {U:UL} {H:Holes} {l:List Oper} {k:Nat} {fr:Fr} {S:St} {fr':Fr} {S':St} (hd:∀ o∈l,dstB N o=true)
  (h:xLR C X Y PL U H (l.map (liteO ops)) k fr S=some (fr',S')):∃ B,ARun C ops N (some (U,B,H)) l fr.get S fr'.get S':=by
 unfold xLR at h
 split at h
 ·next fr2 S2 L hx =>
  cases hb:okLg U L with
  |false=>rw [hb] at h;cases h
  |true =>
   rw [hb] at h
   simp only [cond_true] at h
   injection h with h
   simp only [Prod.mk.injEq] at h
   obtain ⟨rfl,rfl⟩:=h
   exact ⟨L.rd,xLB_run hX hY hP l k fr S _ _ L hd hx (fun _ h=>h) (fun w hw=>List.all_eq_true.1 hb w hw)⟩
 ·cases h
end
end Go.Am
end
