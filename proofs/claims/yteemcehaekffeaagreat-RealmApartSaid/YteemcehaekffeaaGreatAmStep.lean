/- The abstract layer: one operation, reckoned. -/
import Derived.Test.YteemcehaekffeaaGreatAmMap
import Derived.Lib.AppendZeros
set_option linter.unusedVariables false
set_option linter.unusedSimpArgs false
section
namespace Go.Am
open Go
noncomputable section
open Classical
def AVal.okc (v:AVal):Prop:=∀ c∈v.cells,c.one=true
def aLoad (C:Cx) (S:St) (t:TypeId) (v:AVal):Option Out :=
 match C.T t with
 |none=>none
 |some i=>match v with
  |.cptr cs=>some ⟨i.size≤cs.length,ofCells i (cs.take i.size),S⟩
  |.ptr b off=>match S[b]? with
   |some (.cells bs _)=>some ⟨off+i.size≤bs.length,ofCells i ((bs.drop off).take i.size),S⟩
   |some (.row bs _)=>some ⟨off+i.size≤bs.length,ofCells i ((bs.drop off).take i.size),S⟩
   |_=>none
  |_=>none
def aStore (C:Cx) (S:St) (t:TypeId) (a v:AVal):Option Out :=
 match C.T t with
 |none=>none
 |some i=>match a with
  |.ptr b off=>match S[b]? with
   |some (.cells bs tb)=>some ⟨off+i.size≤bs.length∧v.cells.length=i.size∧v.okc,.raw undef,S.set b (.cells (putCells bs off v.cells) tb)⟩
   |some (.row bs tb)=>some ⟨off+i.size≤bs.length∧v.cells.length=i.size∧v.okc,.raw undef,S.set b (.row (putCells bs off v.cells) tb)⟩
   |_=>none
  |_=>none
def aIndexAddr (C:Cx) (S:St) (t:TypeId) (x ix:AVal):Option Out :=
 match C.T t with
 |none=>none
 |some i=>match i.d with
  |.slice e=>match C.T e with
   |none=>none
   |some j=>match x,ix with
    |.sl sz _ xs _,.int _ n=>some ⟨sz=j.size∧0≤n∧n.toNat<xs.length,.cptr ((xs.getD n.toNat .any).cells),S⟩
    |.view b off m _,.int _ n=>some ⟨0≤n∧n.toNat<m,.ptr b (off+n.toNat*j.size),S⟩
    |.vrow b off m,.int _ n=>some ⟨0≤n∧n.toNat<m,.ptr b (off+n.toNat*j.size),S⟩
    |.ms b _ m,.int _ n=>some ⟨0≤n∧n.toNat<m,.ptr b (n.toNat*j.size),S⟩
    |_,_=>none
  |.array m e=>match C.T e with
   |none=>none
   |some j=>match x,ix with
    |.ptr b off,.int _ n=>some ⟨0≤n∧n.toNat<m,.ptr b (off+n.toNat*j.size),S⟩
    |.cptr cs,.int _ n=>some ⟨0≤n∧n.toNat<m,.cptr (cs.drop (n.toNat*j.size)),S⟩
    |_,_=>none
  |_=>none
def aIndex (C:Cx) (S:St) (t:TypeId) (x ix:AVal):Option Out :=
 match C.T t with
 |none=>none
 |some i=>match i.d with
  |.string=>match x,ix with
   |.str s,.int _ n=>some ⟨0≤n∧n.toNat<s.length,.int .u8 ((s.getD n.toNat 0).toNat:Int),S⟩
   |_,_=>none
  |.array m e=>match C.T e with
   |none=>none
   |some j=>match x,ix with
    |.agg cs,.int _ n=>some ⟨0≤n∧n.toNat<m∧n.toNat*j.size+j.size≤cs.length,ofCells j ((cs.drop (n.toNat*j.size)).take j.size),S⟩
    |_,_=>none
  |_=>none
def aFieldAddr (C:Cx) (S:St) (t:TypeId) (x:AVal) (k:Nat):Option Out :=
 match C.T t with
 |none=>none
 |some i=>match fieldOf i k with
  |none=>none
  |some (off,tf)=>match C.T tf with
   |none=>none
   |some j=>match x with
    |.ptr b o=>some ⟨j.size≠0,.ptr b (o+off),S⟩
    |.cptr cs=>some ⟨j.size≠0,.cptr (cs.drop off),S⟩
    |_=>none
def aField (C:Cx) (S:St) (t:TypeId) (x:AVal) (k:Nat):Option Out :=
 match C.T t with
 |none=>none
 |some i=>match fieldOf i k with
  |none=>none
  |some (off,tf)=>match C.T tf with
   |none=>none
   |some j=>match x with
    |.agg cs=>some ⟨off+j.size≤cs.length,ofCells j ((cs.drop off).take j.size),S⟩
    |_=>none
def toBd:Option AVal→Option Bd
 |none=>some none
 |some (.int k n)=>some (some (k,n))
 |_=>none
def msCut (b sz l h:Nat):AVal:=if l=h then .sl sz false [] .any else .vrow b (l*sz) (h-l)
def aSlice (C:Cx) (S:St) (t:TypeId) (x:AVal) (lo hi mx:Option AVal):Option Out :=
 match C.T t,toBd lo,toBd hi,toBd mx with
 |some i,some l,some h,some m=>match i.d with
  |.string=>match x with
   |.str s=>some ⟨mx=none∧l.pos∧h.pos∧l.at 0≤h.at s.length∧h.at s.length≤s.length,.str ((s.take (h.at s.length)).drop (l.at 0)),S⟩
   |_=>none
  |.slice e=>match C.T e with
   |none=>none
   |some j=>match x with
    |.room g sz q n=>some ⟨sz=j.size∧q=e∧l=none∧h.isSome=true∧h.pos∧h.at 0=0∧m=none,.sl j.size false [] (.grow g),S⟩
    |.ms b sz n=>some ⟨sz=j.size∧m=none∧l.pos∧h.pos∧l.at 0≤h.at n∧h.at n≤n,msCut b j.size (l.at 0) (h.at n),S⟩
    |.view b off n c=>some ⟨m=none∧l.pos∧h.pos∧l.at 0≤h.at n∧h.at n≤c∧(l.at 0<c∨l.at 0=0),.view b (off+l.at 0*j.size) (h.at n-l.at 0) (c-l.at 0),S⟩
    |.sl sz nl xs _=>some ⟨sz=j.size∧l.pos∧h.pos∧m.pos∧l.at 0≤h.at xs.length∧h.at xs.length≤xs.length∧(m=none∨(h.at xs.length≤m.at 0∧m.at 0≤xs.length∧h.isSome=true)),
      .sl sz nl ((xs.take (h.at xs.length)).drop (l.at 0)) (cutTag xs.length h m),S⟩
    |_=>none
  |.array n e=>match C.T e with
   |none=>none
   |some j=>match x with
    |.ptr b off=>some ⟨mx=none∧l.pos∧h.pos∧l.at 0≤h.at n∧h.at n≤n∧(l.at 0<n∨l.at 0=0),.view b (off+l.at 0*j.size) (h.at n-l.at 0) (n-l.at 0),S⟩
    |.cptr cs=>some ⟨mx=none∧l.pos∧h.pos∧l.at 0≤h.at n∧h.at n≤n∧(l.at 0<n∨l.at 0=0)∧j.size=1∧(∀ c∈cs,c.one=true)∧n≤cs.length∧n≤maxLen,.sl 1 false ((cs.take (h.at n)).drop (l.at 0)) .any,S⟩
    |_=>none
  |_=>none
 |_,_,_,_=>none
def aConvert (C:Cx) (S:St) (src dst:TypeId) (x:AVal):Option Out :=
 match C.T src,C.T dst with
 |some i,some j=>match i.d,j.d with
  |.int _,.int k=>match x with
   |.int _ n=>some ⟨True,.int k (k.wrap n),S⟩
   |_=>none
  |.string,.string=>match x with
   |.str s=>some ⟨True,.str s,S⟩
   |_=>none
  |.string,.slice e=>match C.T e with
   |some q=>match x with
    |.str s=>some ⟨q.d = .int .u8∧s.length≤maxLen,.sl 1 false (bl s) .any,S⟩
    |_=>none
   |none=>none
  |.slice _,.slice e=>match C.T e with
   |some q=>match x with
    |.sl sz false xs .lit=>some ⟨src=dst∧q.d = .int .u8,.sl sz false xs .full,S⟩
    |_=>none
   |none=>none
  |.slice e,.string=>match C.T e with
   |some q=>match x with
    |.sl sz _ xs _=>some ⟨q.d = .int .u8∧sz=1∧xs=bl (xs.map unb),.str (xs.map unb),S⟩
    |.view b off n _=>match S[b]? with
     |some (.cells bs _)=>some ⟨q.d = .int .u8∧off+n≤bs.length∧(bs.drop off).take n=bl (((bs.drop off).take n).map unb),.str (((bs.drop off).take n).map unb),S⟩
     |_=>none
    |_=>none
   |none=>none
  |_,_=>none
 |_,_=>none
def nilEq:AVal→AVal→Option Bool
 |.nilp,.nilp=>some true
 |.ptr _ _,.nilp|.nilp,.ptr _ _|.cptr _,.nilp|.nilp,.cptr _=>some false
 |.sl _ nl _ _,.sl _ true [] _=>some nl
 |.view _ _ _ _,.sl _ true [] _=>some false
 |.nilmap,.nilmap=>some true
 |.map _,.nilmap=>some false
 |.nilfn,.nilfn=>some true
 |.fn _ _ _,.nilfn=>some false
 |.ifc _ _,.nilifc=>some false
 |_,_=>none
def nilKind:TypeDesc→AVal→Bool
 |.pointer _,.nilp|.pointer _,.ptr _ _|.pointer _,.cptr _=>true
 |.slice _,.sl _ _ _ _|.slice _,.view _ _ _ _=>true
 |.map _ _,.nilmap|.map _ _,.map _=>true
 |.func _ _ _,.nilfn|.func _ _ _,.fn _ _ _=>true
 |.interface _,.nilifc|.interface _,.ifc _ _=>true
 |_,_=>false
def aBin (C:Cx) (S:St) (op:BinOp) (t:TypeId) (ox oy:Operand) (x y:AVal):Option Out :=
 match op,x,y with
 |.shl,.int k a,.int _ b=>some ⟨0≤b,.int k (k.wrap (a*2 ^ (min b.toNat k.bits))),S⟩
 |.shr,.int k a,.int _ b=>some ⟨0≤b,.int k (a.fdiv (2 ^ (min b.toNat k.bits))),S⟩
 |op,.int k a,.int k' b=>(intBin op k a b).map fun (sd,r)=>⟨k=k'∧sd,r,S⟩
 |op,.str a,.str b=>(strBin op a b).map fun (sd,r)=>⟨sd,r,S⟩
 |op,.bool a,.bool b=>match C.T t with
  |some i=>match i.d,op with
   |.bool,.eql=>some ⟨True,.bool (a==b),S⟩
   |.bool,.neq=>some ⟨True,.bool (!(a==b)),S⟩
   |_,_=>none
  |none=>none
 |op,.agg xs,.agg ys=>match C.T t with
  |some i=>match op with
   |.eql=>some ⟨i.isAgg=true∧flatT C.P C.T 20 t=true∧C.P.eqGuardType C.P.depth t=false∧skbs xs i.zero=true∧skbs ys i.zero=true,.bool (decide (xs=ys)),S⟩
   |.neq=>some ⟨i.isAgg=true∧flatT C.P C.T 20 t=true∧C.P.eqGuardType C.P.depth t=false∧skbs xs i.zero=true∧skbs ys i.zero=true,.bool (!decide (xs=ys)),S⟩
   |_=>none
  |none=>none
 |op,.nilifc,.nilifc=>match ox,oy,op with
  |_,.const _,.eql=>some ⟨∃ i m,C.T t=some i∧i.d = .interface m,.bool true,S⟩
  |_,.const _,.neq=>some ⟨∃ i m,C.T t=some i∧i.d = .interface m,.bool false,S⟩
  |_,_,_=>none
 |op,x,y=>match C.T t with
  |some i=>match op,nilEq x y with
   |.eql,some b=>some ⟨nilKind i.d x=true∧nilKind i.d y=true,.bool b,S⟩
   |.neq,some b=>some ⟨nilKind i.d x=true∧nilKind i.d y=true,.bool (!b),S⟩
   |_,_=>none
  |none=>none
def aUn (S:St) (op:UnOp) (x:AVal):Option Out :=
 match op,x with
 |.neg,.int k n=>some ⟨True,.int k (k.wrap (0-n)),S⟩
 |.xor,.int k n=>some ⟨True,.int k (bits .xor k (if k.signed then -1 else k.max) n),S⟩
 |.not,.bool b=>some ⟨True,.bool (!b),S⟩
 |_,_=>none
def aLen (C:Cx) (S:St) (t:TypeId) (x:AVal):Option Out :=
 match C.T t with
 |none=>none
 |some i=>match i.d with
  |.slice _=>match x with
   |.sl _ _ xs _=>some ⟨True,.int .i64 xs.length,S⟩
   |.view _ _ n _=>some ⟨True,.int .i64 n,S⟩
   |.vrow _ _ n=>some ⟨True,.int .i64 n,S⟩
   |.ms _ _ n=>some ⟨True,.int .i64 n,S⟩
   |_=>none
  |.string=>match x with
   |.str s=>some ⟨True,.int .i64 s.length,S⟩
   |_=>none
  |.array n _=>some ⟨True,.int .i64 n,S⟩
  |.map _ _=>match x with
   |.nilmap=>some ⟨True,.int .i64 0,S⟩
   |.map b=>match S[b]? with
    |some (.mp es _)=>some ⟨True,.int .i64 es.length,S⟩
    |_=>none
   |_=>none
  |_=>none
def foldI (f:Int→Int→Int):Int→List AVal→Option Int
 |a,[]=>some a
 |a,.int _ b::rest=>foldI f (f a b) rest
 |_,_=>none
def foldMM (f:Int→Int→Int):List AVal→Option AVal
 |.int k a::rest=>(foldI f a rest).map (.int k)
 |_=>none
def minI (a b:Int):Int:=if b<a then b else a
def maxI (a b:Int):Int:=if a<b then b else a
def aMakeSlice (C:Cx) (S:St) (t:TypeId) (l c:AVal):Option Out :=
 match C.T t with
 |none=>none
 |some i=>match i.d with
  |.slice e=>match C.T e with
   |none=>none
   |some j=>match l,c with
    |.int _ n,.int _ m=>some ⟨l = .int .i64 n∧c = .int .i64 m∧0≤n∧n≤m∧m≤9223372036854775807∧j.bytes*m.toNat≤140737488355328,.view S.length 0 n.toNat m.toNat,S++[.cells (List.replicate m.toNat j.zero).flatten e]⟩
    |_,_=>none
  |_=>none
def srcTy (C:Cx) (tx:TypeId) (v:AVal):Prop :=
 match v with
 |.str _=>∃ i,C.T tx=some i∧i.d = .string
 |_=>∃ i e,C.T tx=some i∧i.d = .slice e
def aAppend0 (C:Cx) (S:St) (t tx:TypeId) (n:Int):Option Out :=
 match C.T t with
 |none=>none
 |some i=>match i.d with
  |.slice e=>match C.T e with
   |none=>none
   |some j=>some ⟨0<n∧0<j.size∧n≤9223372036854775807∧n.toNat*j.bytes≤140737488355328∧∃ q k,C.T tx=some q∧q.d = .int k,.room S.length j.size e n.toNat,S++[.grow 0 j.size e]⟩
  |_=>none
def aCap (C:Cx) (S:St) (t:TypeId) (x:AVal):Option Out :=
 match C.T t with
 |none=>none
 |some i=>match i.d with
  |.slice _=>match x with
   |.sl _ true [] _=>some ⟨True,.int .i64 0,S⟩
   |.view _ _ _ c=>some ⟨True,.int .i64 c,S⟩
   |_=>none
  |_=>none
def aAppend (C:Cx) (S:St) (t tx:TypeId) (x v:AVal):Option Out :=
 match C.T t with
 |none=>none
 |some i=>match i.d with
  |.slice e=>match C.T e with
   |none=>none
   |some j=>match x with
    |.sl sz nl xs (.grow g)=>some ⟨sz=j.size∧S[g]? = some (.grow xs.length j.size e)∧srcTy C tx v∧srcOk S j.size v∧xs.length+(srcOf S v).length≤maxLen∧(xs.length+(srcOf S v).length)*j.bytes≤140737488355328,
      .sl j.size (nl&&(srcOf S v).isEmpty) (xs++srcOf S v) (.grow g),S.set g (.grow (xs.length+(srcOf S v).length) j.size e)⟩
    |.sl sz nl xs (.own g)=>some ⟨sz=j.size∧S[g]? = some (.grow xs.length j.size e)∧srcTy C tx v∧srcOk S j.size v∧xs.length+(srcOf S v).length≤maxLen∧(xs.length+(srcOf S v).length)*j.bytes≤140737488355328,
      .sl j.size (nl&&(srcOf S v).isEmpty) (xs++srcOf S v) (.own g),S.set g (.grow (xs.length+(srcOf S v).length) j.size e)⟩
    |.sl _ true [] _=>some ⟨srcTy C tx v∧srcOk S j.size v∧(srcOf S v).length≤maxLen∧(srcOf S v).length*j.bytes≤140737488355328,
      .sl j.size (srcOf S v).isEmpty (srcOf S v) (.grow S.length),S++[.grow (srcOf S v).length j.size e]⟩
    |.sl sz nl xs .full=>some ⟨sz=j.size∧srcTy C tx v∧srcOk S j.size v∧xs.length+(srcOf S v).length≤maxLen∧(xs.length+(srcOf S v).length)*j.bytes≤140737488355328,
      .sl j.size (nl&&(srcOf S v).isEmpty) (xs++srcOf S v) (.grow S.length),S++[.grow (xs.length+(srcOf S v).length) j.size e]⟩
    |_=>none
  |_=>none
def aAppR (C:Cx) (S:St) (t tx:TypeId) (x v:AVal):Option Out :=
 match C.T t,C.T tx with
 |some i,some q=>match i.d,q.d with
  |.slice e,.slice _=>match C.T e with
   |none=>none
   |some j=>match x with
    |.sl _ true [] _=>some ⟨srcCOk S j.size v∧0<(srcC S j.size v).1∧(srcC S j.size v).1≤maxLen∧(srcC S j.size v).1*j.bytes≤140737488355328,
      .ms S.length j.size (srcC S j.size v).1,S++[.row (srcC S j.size v).2 e]⟩
    |.sl _ false [] .full=>some ⟨srcCOk S j.size v∧0<(srcC S j.size v).1∧(srcC S j.size v).1≤maxLen∧(srcC S j.size v).1*j.bytes≤140737488355328,
      .ms S.length j.size (srcC S j.size v).1,S++[.row (srcC S j.size v).2 e]⟩
    |.ms b sz n=>match S[b]? with
     |some (.row cs e')=>some ⟨e'=e∧sz=j.size∧n*j.size=cs.length∧srcCOk S j.size v∧0<(srcC S j.size v).1∧n+(srcC S j.size v).1≤maxLen∧(n+(srcC S j.size v).1)*j.bytes≤140737488355328,
       .ms S.length j.size (n+(srcC S j.size v).1),S.set b .dead++[.row (cs++(srcC S j.size v).2) e]⟩
     |_=>none
    |_=>none
  |_,_=>none
 |_,_=>none
def aAppN (C:Cx) (S:St) (t tx:TypeId) (x v:AVal):Option Out :=
 match C.T t,C.T tx with
 |some i,some q=>match i.d,q.d with
  |.slice e,.slice _=>match C.T e with
   |none=>none
   |some j=>match x with
    |.sl sz true [] tg=>some ⟨srcCOk S j.size v∧(srcC S j.size v).1=0,.sl sz true [] tg,S⟩
    |.ms b sz n=>some ⟨srcCOk S j.size v∧(srcC S j.size v).1=0,.ms b sz n,S⟩
    |_=>none
  |_,_=>none
 |_,_=>none
def aCopy (C:Cx) (S:St) (t tx:TypeId) (x v:AVal):Option Out :=
 match C.T t with
 |none=>none
 |some i=>match i.d with
  |.slice e=>match C.T e with
   |none=>none
   |some j=>match x with
    |.view b off n _=>match S[b]? with
     |some (.cells bs tb)=>some ⟨j.size=1∧off+n≤bs.length∧srcOk S 1 v∧∀ y∈srcOf S v,y.one=true,
       .int .i64 (min (srcOf S v).length n:Nat),S.set b (.cells (putCells bs off ((srcOf S v).take n)) tb)⟩
     |_=>none
    |_=>none
  |_=>none
def aBuiltin (C:Cx) (S:St) (b:Builtin) (ts:List TypeId) (xs:List AVal):Option Out :=
 match b,ts,xs with
 |.len,[t],[x]=>aLen C S t x
 |.append,[t,tx],[x,v]=>match v,x with
  |.int _ n,.sl _ true [] _=>aAppend0 C S t tx n
  |_,_=>aAppend C S t tx x v
 |.cap,[t],[x]=>aCap C S t x
 |.copy,[t,tx],[x,v]=>aCopy C S t tx x v
 |.delete,[t,_],[x,k]=>aDelete C S t x k
 |.min,_,xs=>(foldMM minI xs).map fun r=>⟨True,r,S⟩
 |.max,_,xs=>(foldMM maxI xs).map fun r=>⟨True,r,S⟩
 |_,_,_=>none
def aStep (C:Cx) (op:Op) (g:Nat→AVal) (S:St):Option Out :=
 match op with
 |.move x|.assign x=>some ⟨True,aEval C g x,S⟩
 |.pick c a b=>match aEval C g c with
  |.bool t=>some ⟨True,if t=true then aEval C g a else aEval C g b,S⟩
  |_=>none
 |.alloc t=>match C.T t with
  |some i=>some ⟨True,.ptr S.length 0,S++[.cells i.zero t]⟩
  |none=>none
 |.box t x=>some ⟨(aEval C g x).okc,.ptr S.length 0,S++[.cells (aEval C g x).cells t]⟩
 |.build t parts=>match C.T t with
  |some i=>match fillCells (placeOf C.T i) i.zero (parts.toList.map fun p=>(p.1,aEval C g p.2)) with
   |some out=>some ⟨i.isAgg=true∧(∀ n e,i.d = .array n e→(C.T e).isSome=true)∧∀ p∈parts.toList,(aEval C g p.2).okc,.agg out,S⟩
   |none=>none
  |none=>none
 |.buildSlice t n parts=>match C.T t with
  |some i=>match i.d with
   |.slice e=>match C.T e with
    |some j=>match setElems j.size (List.replicate n (ofCells j j.zero)) (parts.toList.map fun p=>(p.1,aEval C g p.2)) with
     |some out=>some ⟨0<j.size∧n*j.size≤16777216∧∀ p∈parts.toList,(aEval C g p.2).okc,.sl j.size false out .full,S⟩
     |none=>none
    |none=>none
   |_=>none
  |none=>none
 |.load t a=>aLoad C S t (aEval C g a)
 |.store t a v=>aStore C S t (aEval C g a) (aEval C g v)
 |.nilCheck x=>match aEval C g x with
  |.ptr b o=>some ⟨True,.ptr b o,S⟩
  |.cptr cs=>some ⟨True,.cptr cs,S⟩
  |.fn (.func f) as bs=>some ⟨True,.fn (.func f) as bs,S⟩
  |_=>none
 |.binOp op t x y _=>aBin C S op t x y (aEval C g x) (aEval C g y)
 |.unOp op _ x=>aUn S op (aEval C g x)
 |.convert src dst x=>aConvert C S src dst (aEval C g x)
 |.sliceToArrayPointer t x=>match C.T t with
  |some i=>match i.d with
   |.array n e=>match C.T e with
    |some j=>match aEval C g x with
     |.sl sz _ xs _=>some ⟨sz=1∧j.size=1∧0<n∧n≤xs.length∧∀ c∈xs.take n,c.one=true,.cptr (xs.take n),S⟩
     |.view b off m _=>some ⟨n≤m,.ptr b off,S⟩
     |_=>none
    |none=>none
   |_=>none
  |none=>none
 |.makeInterface t x=>some ⟨C.P.concrete t=true,.ifc t (aEval C g x),S⟩
 |.makeFunc fn as bs=>some ⟨True,.fn fn (as.toList.map (aEval C g)) (bs.toList.map (aEval C g)),S⟩
 |.slice t x lo hi mx=>aSlice C S t (aEval C g x) (lo.map (aEval C g)) (hi.map (aEval C g)) (mx.map (aEval C g))
 |.fieldAddr t x k=>aFieldAddr C S t (aEval C g x) k
 |.field t x k=>aField C S t (aEval C g x) k
 |.indexAddr t x ix=>aIndexAddr C S t (aEval C g x) (aEval C g ix)
 |.index t x ix=>aIndex C S t (aEval C g x) (aEval C g ix)
 |.extract t k=>match aEval C g t with
  |.tup vs=>some ⟨k<vs.length,vs.getD k .any,S⟩
  |_=>none
 |.makeMap _ r=>aMakeMap S (r.map (aEval C g))
 |.insert t m k x=>aMapUpdate C S t (aEval C g m) (aEval C g k) (aEval C g x)
 |.mapUpdate t m k x=>aMapUpdate C S t (aEval C g m) (aEval C g k) (aEval C g x)
 |.lookup t m k ok=>aLookup C S t (aEval C g m) (aEval C g k) ok
 |.mapEntry t m k=>aMapEntry C S t (aEval C g m) (aEval C g k)
 |.entryStore _ m st x=>aEntryStore S (aEval C g m) (aEval C g st) (aEval C g x)
 |.range t x=>aRange C S t (aEval C g x)
 |.entry it=>aEntry S (aEval C g it)
 |.next it true=>aNextS S (aEval C g it)
 |.makeSlice t l c=>aMakeSlice C S t (aEval C g l) (aEval C g c)
 |.call c=>match c.callee with
  |.builtin b=>aBuiltin C S b c.argTypes.toList (c.args.toList.map (aEval C g))
  |_=>none
 |_=>none
end
end Go.Am
end
section
namespace Go.Am
open Go
noncomputable section
open Classical
section
variable {C:Cx} {o:Oper} {g:Nat→AVal} {S:St} {out:Out}
theorem okc_fits {v:AVal} (h:v.okc):v.fits v.cells.length:=⟨rfl,h⟩
theorem OpOk.of_val {S':St} {r:AVal} (hnd:∀ c,o.op ≠ .defer c) (s:(Operand→Value)→Sem Value) (he:∀ ρ,execOp ρ o=do pure (.value (← s ρ)))
  (h:∀ (E:Env) (N:Nat) (a:Act),Wf C.G E→E.S=S→RF E N g a→ROk C.G E S' r ((s a.eval).run C.P E.w)):OpOk C o g S r S':=by
 refine OpOk.of_run hnd fun E N a hE hS hr=>?_
 obtain ⟨E',x,h1,h2,h3,h4,h5⟩:=h E N a hE hS hr
 refine ⟨E',x,.value x,?_,.inl rfl,h2,h3,h4,h5⟩
 rw [he,Sem.run_bind,h1]
 rfl
theorem ROk.same {G:Nat→Option AVal} {E:Env} {S:St} {r:AVal} {res:Result Value} (hS:E.S=S) (h:ROk G E E.S r res):ROk G E S r res:=hS▸h
theorem bd_val {ρ:Operand→Value} {E:Env} {x:Option Operand} {g:Nat→AVal} {b:Bd} (h:toBd (x.map (aEval C g))=some b) (hr:∀ y,R E (aEval C g y) (ρ y)):x.map ρ=b.val:=by
 cases x with
 |none=>simp [toBd] at h;subst h;rfl
 |some y =>
  simp only [Option.map_some,toBd] at h
  split at h
  ·next he=>cases he
  ·next k n he =>
   injection he with he
   injection h with h
   subst h
   have:=hr y
   rw [he] at this
   simp [Bd.val,this.int_inv]
  ·cases h
theorem step_load (hC:C.Ok) {t:TypeId} {x:Operand} (ho:o.op = .load t x) (h:aLoad C S t (aEval C g x)=some out) (hs:out.sd):OpOk C o g S out.r out.S:=by
 refine OpOk.of_val (by rw [ho];intro c h;cases h) (fun ρ=>Instr.loadAt t (ρ x)) (fun ρ=>by simp [execOp,ho]) fun E N a hE hS hr=>?_
 have hx:=R.eval hE hr x
 unfold aLoad at h
 split at h
 ·cases h
 ·next i hi =>
  split at h
  ·next cs he =>
   injection h with h;subst h
   rw [he] at hx
   exact (load_cptr hE (hC.T.ok t i hi) hx hs).same hS
  ·next b off he =>
   split at h
   ·next bs tb hb =>
    injection h with h;subst h
    rw [he] at hx
    exact (load_ptr hE (hC.T.ok t i hi) hx (by rw [hS];exact hb) hs).same hS
   ·next bs tb hb =>
    injection h with h;subst h
    rw [he] at hx
    exact (load_row hE (hC.T.ok t i hi) hx (by rw [hS];exact hb) hs).same hS
   ·cases h
  ·cases h
theorem step_store (hC:C.Ok) {t:TypeId} {x y:Operand} (ho:o.op = .store t x y) (h:aStore C S t (aEval C g x) (aEval C g y)=some out) (hs:out.sd):OpOk C o g S out.r out.S:=by
 refine OpOk.of_run (by rw [ho];intro c h;cases h) fun E N a hE hS hr=>?_
 have hx:=R.eval hE hr x
 have hy:=R.eval hE hr y
 unfold aStore at h
 split at h
 ·cases h
 ·next i hi =>
  split at h
  ·next b off he =>
   split at h
   ·next bs tb hb =>
    injection h with h;subst h
    rw [he] at hx
    obtain ⟨h1,h2,h3⟩:=hs
    obtain ⟨E',k1,k2,k3,k4⟩:=store_ptr hE (hC.T.ok t i hi) hx hy (by rw [hS];exact hb) h1 ⟨h2,h3⟩
    refine ⟨E',undef,.skip,?_,.inr ⟨rfl,rfl⟩,k2,k3,by rw [k4,hS],.raw _⟩
    simp only [execOp,ho,Sem.run_bind,k1,Result.andThen_ok,Sem.run_pure]
   ·next bs tb hb =>
    injection h with h;subst h
    rw [he] at hx
    obtain ⟨h1,h2,h3⟩:=hs
    obtain ⟨E',k1,k2,k3,k4⟩:=store_row hE (hC.T.ok t i hi) hx hy (by rw [hS];exact hb) h1 ⟨h2,h3⟩
    refine ⟨E',undef,.skip,?_,.inr ⟨rfl,rfl⟩,k2,k3,by rw [k4,hS],.raw _⟩
    simp only [execOp,ho,Sem.run_bind,k1,Result.andThen_ok,Sem.run_pure]
   ·cases h
  ·cases h
theorem step_indexAddr (hC:C.Ok) {t:TypeId} {x y:Operand} (ho:o.op = .indexAddr t x y) (h:aIndexAddr C S t (aEval C g x) (aEval C g y)=some out) (hs:out.sd):OpOk C o g S out.r out.S:=by
 refine OpOk.of_val (by rw [ho];intro c h;cases h) (fun ρ=>Instr.indexAt t (ρ x) (ρ y)) (fun ρ=>by simp [execOp,ho]) fun E N a hE hS hr=>?_
 have hx:=R.eval hE hr x
 have hy:=R.eval hE hr y
 unfold aIndexAddr at h
 split at h
 ·cases h
 ·next i hi =>
  have hu:=(hC.T.ok t i hi).1
  split at h
  ·next e hd =>
   rw [hd] at hu
   split at h
   ·cases h
   ·next j hj =>
    split at h
    ·next sz nl xs tg k n hex hey =>
     injection h with h;subst h
     rw [hex] at hx;rw [hey] at hy
     rw [hy.int_inv]
     exact (index_sl hE hu (hC.T.ok e j hj) hx hs.1 hs.2.1 hs.2.2).same hS
    ·next b off m cap k n hex hey =>
     injection h with h;subst h
     rw [hex] at hx;rw [hey] at hy
     rw [hy.int_inv]
     exact (index_view hE hu (hC.T.ok e j hj) hx hs.1 hs.2).same hS
    ·next b off m k n hex hey =>
     injection h with h;subst h
     rw [hex] at hx;rw [hey] at hy
     rw [hy.int_inv]
     exact (index_vrow hE hu (hC.T.ok e j hj) hx hs.1 hs.2).same hS
    ·next b sz m k n hex hey =>
     injection h with h;subst h
     rw [hex] at hx;rw [hey] at hy
     rw [hy.int_inv]
     exact (index_ms hE hu (hC.T.ok e j hj) hx hs.1 hs.2).same hS
    ·cases h
  ·next m e hd =>
   rw [hd] at hu
   split at h
   ·cases h
   ·next j hj =>
    split at h
    ·next b off k n hex hey =>
     injection h with h;subst h
     rw [hex] at hx;rw [hey] at hy
     rw [hy.int_inv]
     exact (index_arr_ptr hE hu (hC.T.ok e j hj) hx hs.1 hs.2).same hS
    ·next cs k n hex hey =>
     injection h with h;subst h
     rw [hex] at hx;rw [hey] at hy
     rw [hy.int_inv]
     exact (index_arr_cptr hE hu (hC.T.ok e j hj) hx hs.1 hs.2).same hS
    ·cases h
  ·cases h
theorem step_index (hC:C.Ok) {t:TypeId} {x y:Operand} (ho:o.op = .index t x y) (h:aIndex C S t (aEval C g x) (aEval C g y)=some out) (hs:out.sd):OpOk C o g S out.r out.S:=by
 refine OpOk.of_val (by rw [ho];intro c h;cases h) (fun ρ=>Instr.index t (ρ x) (ρ y)) (fun ρ=>by simp [execOp,ho]) fun E N a hE hS hr=>?_
 have hx:=R.eval hE hr x
 have hy:=R.eval hE hr y
 unfold aIndex at h
 split at h
 ·cases h
 ·next i hi =>
  have hu:=(hC.T.ok t i hi).1
  split at h
  ·next hd =>
   rw [hd] at hu
   split at h
   ·next s k n hex hey =>
    injection h with h;subst h
    rw [hex] at hx;rw [hey] at hy
    rw [hy.int_inv]
    exact (index_str hE hu hx hs.1 hs.2).same hS
   ·cases h
  ·next m e hd =>
   rw [hd] at hu
   split at h
   ·cases h
   ·next j hj =>
    split at h
    ·next cs k n hex hey =>
     injection h with h;subst h
     rw [hex] at hx;rw [hey] at hy
     rw [hy.int_inv]
     exact (index_agg hE hu (hC.T.ok e j hj) hx hs.1 hs.2.1 hs.2.2).same hS
    ·cases h
  ·cases h
theorem step_fieldAddr (hC:C.Ok) {t:TypeId} {x:Operand} {k:Nat} (ho:o.op = .fieldAddr t x k) (h:aFieldAddr C S t (aEval C g x) k=some out) (hs:out.sd):OpOk C o g S out.r out.S:=by
 refine OpOk.of_val (by rw [ho];intro c h;cases h) (fun ρ=>Instr.fieldAt t (ρ x) k) (fun ρ=>by simp [execOp,ho]) fun E N a hE hS hr=>?_
 have hx:=R.eval hE hr x
 unfold aFieldAddr at h
 split at h
 ·cases h
 ·next i hi =>
  split at h
  ·cases h
  ·next off tf hf =>
   split at h
   ·cases h
   ·next j hj =>
    split at h
    ·next b oo hex =>
     injection h with h;subst h
     rw [hex] at hx
     exact (field_ptr hE (hC.T.ok t i hi) hf (hC.T.ok tf j hj) hs hx).same hS
    ·next cs hex =>
     injection h with h;subst h
     rw [hex] at hx
     exact (field_cptr hE (hC.T.ok t i hi) hf (hC.T.ok tf j hj) hs hx).same hS
    ·cases h
theorem step_field (hC:C.Ok) {t:TypeId} {x:Operand} {k:Nat} (ho:o.op = .field t x k) (h:aField C S t (aEval C g x) k=some out) (hs:out.sd):OpOk C o g S out.r out.S:=by
 refine OpOk.of_val (by rw [ho];intro c h;cases h) (fun ρ=>Instr.field t (ρ x) k) (fun ρ=>by simp [execOp,ho]) fun E N a hE hS hr=>?_
 have hx:=R.eval hE hr x
 unfold aField at h
 split at h
 ·cases h
 ·next i hi =>
  split at h
  ·cases h
  ·next off tf hf =>
   split at h
   ·cases h
   ·next j hj =>
    split at h
    ·next cs hex =>
     injection h with h;subst h
     rw [hex] at hx
     exact (field_agg hE (hC.T.ok t i hi) hf (hC.T.ok tf j hj) hx hs).same hS
    ·cases h
theorem bd_at_none {b:Bd} (h:b=none) (d:Nat):b.at d=d:=by subst h;rfl
theorem slice_view {P:Program} {G:Nat→Option AVal} {E:Env} {t e:TypeId} {i:TI} (hE:Wf G E) (hu:P.underlying t=some (.slice e)) (hi:i.ok P e) {b off n c:Nat} {x:Value}
  (hx:R E (.view b off n c) x) (lo h:Bd) (p1:lo.pos) (p2:h.pos) (h1:lo.at 0≤h.at n) (h2:h.at n≤c) (h3:lo.at 0<c∨lo.at 0=0) :
  ROk G E E.S (.view b (off+lo.at 0*i.size) (h.at n-lo.at 0) (c-lo.at 0)) ((Instr.sliceAt t x lo.val h.val none).run P E.w):=by
 obtain ⟨_,inf,z,hinf,hs,_,_,_,_,_,_,_⟩:=hi
 cases hx with
 |view _ _ _ _ bb hnc hm hb =>
  have hbd:=run_sliceBounds (P:=P) true n c lo h none p1 p2 trivial h1 (by simpa [Bd.at] using h2) (by simp [Bd.at]) (by simp) E.w
  by_cases e0:c=lo.at 0
  ·have e1:lo.at 0=0:=by omega
   have e2:c=0:=by omega
   subst e2
   refine .pure hE (x:=.slice (some ⟨bb,off,none⟩) (h.at n-lo.at 0) 0) ?_ ?_
   ·have e3:h.at n=0:=by omega
    simp [Instr.sliceAt,Instr.slice,run_underlying hu,show (Instr.sliceBounds true n 0 lo.val h.val none).run P E.w=_ from hbd,Bd.at,run_sizeOf hinf,e1,e3,hs]
    simp [Bd.at] at e1
    simp [e1]
   ·rw [e1]
    simp only [Nat.zero_mul,Nat.add_zero,Nat.sub_zero]
    exact .view _ _ _ _ _ h2 hm hb
  ·refine .pure hE (x:=.slice (some ((⟨bb,off,none⟩ : Addr).add (lo.at 0*i.size))) (h.at n-lo.at 0) (c-lo.at 0)) ?_ ?_
   ·have e4:¬ (c=lo.at 0):=e0
    simp [Instr.sliceAt,Instr.slice,run_underlying hu,show (Instr.sliceBounds true n c lo.val h.val none).run P E.w=_ from hbd,run_sizeOf hinf,hs]
    simp only [Bd.at] at e4 ⊢
    simp [e4]
   ·rw [add_form _ _ rfl]
    exact .view _ _ _ _ _ (by omega) hm hb
theorem slice_ms {P:Program} {G:Nat→Option AVal} {E:Env} {t e:TypeId} {i:TI} (hE:Wf G E) (hu:P.underlying t=some (.slice e)) (hi:i.ok P e) {b n:Nat} {x:Value}
  (hx:R E (.ms b i.size n) x) (lo h:Bd) (p1:lo.pos) (p2:h.pos) (h1:lo.at 0≤h.at n) (h2:h.at n≤n) :
  ROk G E E.S (msCut b i.size (lo.at 0) (h.at n)) ((Instr.sliceAt t x lo.val h.val none).run P E.w):=by
 obtain ⟨_,inf,z,hinf,hs,_,_,_,_,_,_,_⟩:=hi
 cases hx with
 |ms _ _ _ bb c hnc hcm hm hb hcp =>
  have hbd:=run_sliceBounds (P:=P) true n c lo h none p1 p2 trivial h1 (by simp only [Bd.at] at h2 ⊢;omega) (by simp [Bd.at]) (by simp) E.w
  have hrun:(Instr.sliceAt t (.slice (some ⟨bb,0,none⟩) n c) lo.val h.val none).run P E.w = .ok (.slice (some (if c=lo.at 0 then ⟨bb,0,none⟩ else (⟨bb,0,none⟩ : Addr).add (lo.at 0*i.size))) (h.at n-lo.at 0) (c-lo.at 0)) E.w:=by
   simp [Instr.sliceAt,Instr.slice,run_underlying hu,show (Instr.sliceBounds true n c lo.val h.val none).run P E.w=_ from hbd,run_sizeOf hinf,hs]
   simp only [bd_at_none (b:=none) rfl]
   constructor
   ·split<;>rfl
   ·trivial
  refine .pure hE hrun ?_
  unfold msCut
  split
  ·next e0 =>
   refine .sl i.size [] .any _ _ _ (fun _=>undef) (by simp;omega) (by omega) (by omega) (fun j hj=>?_) (fun k hk=>by simp at hk) (fun k hk=>by simp at hk) trivial
   rw [e0,Nat.sub_self,Nat.zero_mul] at hj
   omega
  ·next e0 =>
   rw [if_neg (by omega),add_form _ _ rfl]
   simp only [Nat.zero_add]
   exact .vrow _ _ _ _ _ (by omega) (by omega) hm hb
theorem slice_room {P:Program} {G:Nat→Option AVal} {E:Env} {t e:TypeId} {i:TI} (hE:Wf G E) (hu:P.underlying t=some (.slice e)) (hi:i.ok P e) {g n:Nat} {x:Value}
  (hx:R E (.room g i.size e n) x) (h:Bd) (hsome:h.isSome=true) (p2:h.pos) (h0:h.at 0=0) :
  ROk G E E.S (.sl i.size false [] (.grow g)) ((Instr.sliceAt t x none h.val none).run P E.w):=by
 obtain ⟨_,inf,z,hinf,hs,_,_,_,_,_,_,_⟩:=hi
 cases hx with
 |room _ _ _ _ b c hn hm hr =>
  obtain ⟨hk,rfl⟩|⟨k,q,rfl⟩ : False∧h=none∨∃ k q,h=some (k,q):=by
   cases h with
   |none=>simp at hsome
   |some p=>exact .inr ⟨p.1,p.2,rfl⟩
  ·exact hk.elim
  have hq:q.toNat=0:=h0
  have hbd:=run_sliceBounds (P:=P) true n c none (some (k,q)) none trivial p2 trivial (Nat.zero_le _) (by simp [Bd.at,hq]) (by simp [Bd.at]) (by simp) E.w
  refine .pure hE (x:=.slice (some ⟨b,0,none⟩) 0 c) ?_ ?_
  ·have hbd':(Instr.sliceBounds true n c none (some (Value.int k q)) none).run P E.w = .ok (0,0,c) E.w:=by
    have:=hbd
    simp only [Bd.val,Option.map_none,Option.map_some,Bd.at,hq] at this
    exact this
   simp [Instr.sliceAt,Instr.slice,run_underlying hu,Bd.val,hbd',run_sizeOf hinf,hs]
   intro _;rfl
  ·refine .sl _ _ _ ⟨b,0,none⟩ 0 c (fun _=>undef) rfl (Nat.zero_le _) hm (fun j hj=>by omega) (fun k h=>by simp at h) (fun k h=>by simp at h) ?_
   obtain ⟨m,h1,h2⟩:=hr
   refine ⟨m,e,h1,Nat.zero_le _,fun e0=>.inr ?_⟩
   obtain ⟨q1,arr,q2,q3⟩:=h2 e0.symm
   exact ⟨b,arr,q1,rfl,q2,q3⟩
theorem step_slice (hC:C.Ok) {t:TypeId} {x:Operand} {lo hi mx:Option Operand} (ho:o.op = .slice t x lo hi mx)
  (h:aSlice C S t (aEval C g x) (lo.map (aEval C g)) (hi.map (aEval C g)) (mx.map (aEval C g))=some out) (hs:out.sd):OpOk C o g S out.r out.S:=by
 refine OpOk.of_val (by rw [ho];intro c h;cases h) (fun ρ=>Instr.sliceAt t (ρ x) (lo.map ρ) (hi.map ρ) (mx.map ρ)) (fun ρ=>by simp [execOp,ho]) fun E N a hE hS hr=>?_
 have hx:=R.eval hE hr x
 have hall:=fun y=>R.eval hE hr y
 unfold aSlice at h
 split at h
 ·next i l hh m hi' hl hh' hm =>
  have hu:=(hC.T.ok t i hi').1
  rw [bd_val hl hall,bd_val hh' hall,bd_val hm hall]
  have hmn:mx.map (aEval C g)=none→m=none:=fun e=>by rw [e] at hm;simp [toBd] at hm;exact hm.symm
  split at h
  ·next hd =>
   rw [hd] at hu
   split at h
   ·next s hex =>
    injection h with h;subst h
    rw [hex] at hx
    obtain ⟨h0,h1,h2,h3,h4⟩:=hs
    rw [hmn h0]
    exact (slice_str hE hu hx l hh h1 h2 h3 h4).same hS
   ·cases h
  ·next e hd =>
   rw [hd] at hu
   split at h
   ·cases h
   ·next j hj =>
    split at h
    ·next gg sz q n hex =>
     injection h with h;subst h
     rw [hex] at hx
     obtain ⟨rfl,rfl,rfl,h3,h4,h5,rfl⟩:=hs
     exact (slice_room hE hu (hC.T.ok _ j hj) hx hh h3 h4 h5).same hS
    ·next b sz n hex =>
     injection h with h;subst h
     rw [hex] at hx
     obtain ⟨rfl,rfl,h1,h2,h3,h4⟩:=hs
     exact (slice_ms hE hu (hC.T.ok e j hj) hx l hh h1 h2 h3 h4).same hS
    ·next b off n c hex =>
     injection h with h;subst h
     rw [hex] at hx
     obtain ⟨rfl,h1,h2,h3,h4,h5⟩:=hs
     exact (slice_view hE hu (hC.T.ok e j hj) hx l hh h1 h2 h3 h4 h5).same hS
    ·next sz nl xs tg hex =>
     injection h with h;subst h
     rw [hex] at hx
     obtain ⟨h0,h1,h2,h3,h4,h5,h6⟩:=hs
     exact (slice_sl hE hu (hC.T.ok e j hj) hx h0 l hh m h1 h2 h3 h4 h5 h6).same hS
    ·cases h
  ·next n e hd =>
   rw [hd] at hu
   split at h
   ·cases h
   ·next j hj =>
    split at h
    ·next b off hex =>
     injection h with h;subst h
     rw [hex] at hx
     obtain ⟨h0,h1,h2,h3,h4,h5⟩:=hs
     rw [hmn h0]
     exact (slice_arr hE hu (hC.T.ok e j hj) hx l hh h1 h2 h3 h4 h5).same hS
    ·next cs hex =>
     injection h with h;subst h
     rw [hex] at hx
     obtain ⟨h0,h1,h2,h3,h4,h5,h6,h7,h8,h9⟩:=hs
     rw [hmn h0]
     exact (slice_carr hE hu (hC.T.ok e j hj) h6 hx h7 h8 h9 l hh h1 h2 h3 h4 h5).same hS
    ·cases h
  ·cases h
 ·cases h
theorem env_mark {G:Nat→Option AVal} {E:Env} (hE:Wf G E) {b n:Nat} (h1:E.base≤b) (h2:b<E.w.heap.size) (h3:E.free b) (hn:n≠0) (k:Nat) :
  Ext E { E with w:=E.w.freeze ⟨b,k,none⟩ n }∧Wf G { E with w:=E.w.freeze ⟨b,k,none⟩ n }:=by
 have hw:E.w.freeze ⟨b,k,none⟩ n={ E.w with heap:=(E.w.freeze ⟨b,k,none⟩ n).heap }:=by unfold World.freeze;rw [if_neg hn]
 have hsz:(E.w.freeze ⟨b,k,none⟩ n).heap.size=E.w.heap.size:=by unfold World.freeze;rw [if_neg hn];simp
 have hblk:∀ c,c≠b→(E.w.freeze ⟨b,k,none⟩ n).heap[c]? = E.w.heap[c]?:=fun c hc=>by
  unfold World.freeze
  rw [if_neg hn]
  show (E.w.heap.modify b _)[c]? = _
  rw [Array.getElem?_modify,if_neg (Ne.symm hc)]
 have hkeep:∀ c,HKeep E.base E.w (E.w.freeze ⟨b,k,none⟩ n) c:=fun c=>by
  by_cases e:c=b
  ·subst e
   have hat:(E.w.freeze ⟨c,k,none⟩ n).heap[c]? = (E.w.heap[c]?).map fun
     |.cells c elem (lo,hi)=>.cells c elem (if lo==hi then (k,k+n) else (min lo k,max hi (k+n)))
     |o=>o:=by
    unfold World.freeze
    rw [if_neg hn]
    show (E.w.heap.modify c _)[c]? = _
    rw [Array.getElem?_modify,if_pos rfl]
    cases E.w.heap[c]? with
    |none=>rfl
    |some o=>cases o<;>rfl
   cases ho:E.w.heap[c]? with
   |none=>exact .inl (by rw [hat,ho];rfl)
   |some o =>
    rw [ho] at hat
    cases o with
    |cells arr t m=>exact .inr ⟨h1,arr,t,m,_,ho,hat⟩
    |_=>exact .inl (hat.trans ho.symm)
  ·exact .inl (hblk c e)
 have hmu:∀ i c:Nat,E.mu[i]? = some (some c)→(E.w.freeze ⟨b,k,none⟩ n).heap[c]? = E.w.heap[c]?:=fun i c h=>hblk c fun e=>h3 i (e▸h)
 have hos:(E.w.freeze ⟨b,k,none⟩ n).os=E.w.os∧(E.w.freeze ⟨b,k,none⟩ n).tape=E.w.tape∧(E.w.freeze ⟨b,k,none⟩ n).output=E.w.output:=by
  unfold World.freeze
  rw [if_neg hn]
  exact ⟨rfl,rfl,rfl⟩
 have hx:Ext E { E with w:=E.w.freeze ⟨b,k,none⟩ n } :=
  ⟨rfl,rfl,rfl,Nat.le_of_eq hsz.symm,hos.1,hos.2.1,hos.2.2,Nat.le_refl _,fun c _ hf=>⟨hf,hkeep c⟩,fun i x h hx=>⟨rfl,x,h,hx⟩,
   fun i n sz t h=>⟨n,h,Nat.le_refl _,fun _=>⟨rfl,fun c hc=>hmu i c hc⟩,fun c hc=>⟨fun o _=>cell_same (hmu i c hc) _ _,.inl hc⟩⟩,fun i c _ h hm=>⟨h,hmu i c hm⟩,fun i cs t h _=>⟨⟨cs,t,h⟩,fun c hc=>.same (hmu i c hc)⟩⟩
 refine ⟨hx,hE.len,hE.inj,fun i c h=>by show c<(E.w.freeze ⟨b,k,none⟩ n).heap.size;rw [hsz];exact hE.lt i c h,by show E.base≤(E.w.freeze ⟨b,k,none⟩ n).heap.size;rw [hsz];exact hE.base,hE.im,fun i x h=>?_,fun g v h=>(hE.glob g v h).ext hE hx⟩
 exact (hE.entry i x h).keep hE hx rfl fun c hc=>hmu i c hc
theorem mark_sl {P:Program} {G:Nat→Option AVal} {E:Env} (hE:Wf G E) {t e' e:TypeId} (hu:P.underlying t=some (.slice e')) (hv:P.underlying t=some (.slice e)) (he:P.underlying e=some (.int .u8)) {sz:Nat} {xs:List AVal} {x:Value}
  (hx:R E (.sl sz false xs .lit) x):ROk G E E.S (.sl sz false xs .full) ((convert t t x).run P E.w):=by
 cases hx with
 |sl _ _ _ ad n c f hn hc hm hf hsz hr ht =>
  obtain ⟨hcn,hh⟩:=ht
  obtain ⟨h1,h2,h3,h4⟩:=hh ad rfl
  have hR:R E (.sl sz false xs .full) (.slice (some ad) n c):=.sl _ _ _ ad n c f hn hc hm hf hsz hr hcn
  cases hs:E.w.shape? ad.block with
  |none =>
   refine .pure hE (x:=.slice (some ad) n c) ?_ hR
   simp [convert,run_underlying hv,run_underlying he,markStringish,hs]
  |some p =>
   obtain ⟨k1,k2⟩:=env_mark hE h2 h3 h4 (n:=1) (by decide) p.2
   refine ⟨_,.slice (some ad) n c,?_,k1,k2,rfl,hR.ext hE k1⟩
   simp [convert,run_underlying hv,run_underlying he,markStringish,hs]
theorem step_convert (hC:C.Ok) {src dst:TypeId} {x:Operand} (ho:o.op = .convert src dst x) (h:aConvert C S src dst (aEval C g x)=some out) (hs:out.sd):OpOk C o g S out.r out.S:=by
 refine OpOk.of_val (by rw [ho];intro c h;cases h) (fun ρ=>convert src dst (ρ x)) (fun ρ=>by simp [execOp,ho]) fun E N a hE hS hr=>?_
 have hx:=R.eval hE hr x
 unfold aConvert at h
 split at h
 ·next i j hi hj =>
  have hu:=(hC.T.ok src i hi).1
  have hv:=(hC.T.ok dst j hj).1
  split at h
  ·next k' k hd1 hd2 =>
   rw [hd1] at hu;rw [hd2] at hv
   split at h
   ·next kk n hex =>
    injection h with h;subst h
    rw [hex] at hx
    rw [hx.int_inv]
    refine ROk.same hS (.pure hE (x:=.int k (k.wrap n)) ?_ (.int _ _))
    simp [convert,run_underlying hu,run_underlying hv,Conv.intToInt]
   ·cases h
  ·next hd1 hd2 =>
   rw [hd1] at hu;rw [hd2] at hv
   split at h
   ·next s hex =>
    injection h with h;subst h
    rw [hex] at hx
    refine ROk.same hS (.pure hE (x:=a.eval x) ?_ hx)
    generalize a.eval x=v at hx
    cases hx with
    |str b _ _=>simp [convert,run_underlying hu,run_underlying hv]
   ·cases h
  ·next e hd1 hd2 =>
   rw [hd1] at hu;rw [hd2] at hv
   split at h
   ·next q hq =>
    split at h
    ·next s hex =>
     injection h with h;subst h
     rw [hex] at hx
     have he:=(hC.T.ok e q hq).1
     rw [hs.1] at he
     exact (toBytes_str hE hu hv he hx hs.2).same hS
    ·cases h
   ·cases h
  ·next e' e hd1 hd2 =>
   rw [hd1] at hu;rw [hd2] at hv
   split at h
   ·next q hq =>
    split at h
    ·next sz xs hex =>
     injection h with h;subst h
     rw [hex] at hx
     obtain ⟨rfl,h2⟩:=hs
     have he:=(hC.T.ok e q hq).1
     rw [h2] at he
     exact (mark_sl hE hu hv he hx).same hS
    ·cases h
   ·cases h
  ·next e hd1 hd2 =>
   rw [hd1] at hu;rw [hd2] at hv
   split at h
   ·next q hq =>
    split at h
    ·next sz nl xs tg hex =>
     injection h with h;subst h
     rw [hex] at hx
     obtain ⟨h1,h2,h3⟩:=hs
     have he:=(hC.T.ok e q hq).1
     rw [h1] at he
     subst h2
     rw [h3] at hx
     exact (toString_sl hE hu he hv hx).same hS
    ·next b off n cap hex =>
     split at h
     ·next bs tb hb =>
      injection h with h;subst h
      rw [hex] at hx
      obtain ⟨h1,h2,h3⟩:=hs
      have he:=(hC.T.ok e q hq).1
      rw [h1] at he
      exact (toString_view hE hu he hv (by rw [hS];exact hb) h2 h3 hx).same hS
     ·cases h
    ·cases h
   ·cases h
  ·cases h
 ·cases h
theorem run_shift {op:BinOp} (hop:op = .shl∨op = .shr) (t:TypeId) (k yk:IntKind) (a b:Int) (hb:0≤b) (w:World) :
  (binOp op t (.int k a) (.int yk b)).run C.P w = .ok (.int k (match op with|.shl=>k.wrap (a*2 ^ (min b.toNat k.bits))|_=>a.fdiv (2 ^ (min b.toNat k.bits)))) w:=by
 have:¬ b<0:=by omega
 rcases hop with rfl|rfl<;>simp [binOp,Op.shift,this]
def nonScalar:Value→Bool
 |.pointer _|.slice _ _ _|.map _|.func _ _ _|.nilFunc|.iface _ _|.nilIface|.agg _|.bool _=>true
 |_=>false
theorem eql_form (t:TypeId) (x y:Value) (h:nonScalar x=true) (h':nonScalar y=true):binOp .eql t x y=(do pure (.bool (← Op.equal t x y)):Sem Value):=by
 cases x<;>simp only [nonScalar,reduceCtorEq] at h<;>cases y<;>simp only [nonScalar,reduceCtorEq] at h'<;>rfl
theorem neq_form (t:TypeId) (x y:Value) (h:nonScalar x=true) (h':nonScalar y=true):binOp .neq t x y=(do pure (.bool (!(← Op.equal t x y))):Sem Value):=by
 cases x<;>simp only [nonScalar,reduceCtorEq] at h<;>cases y<;>simp only [nonScalar,reduceCtorEq] at h'<;>rfl
theorem run_eqls {t:TypeId} {x y:Value} {r:Bool} {w:World} (h:nonScalar x=true) (h':nonScalar y=true) (he:(Op.equal t x y).run C.P w = .ok r w) :
  (binOp .eql t x y).run C.P w = .ok (.bool r) w∧(binOp .neq t x y).run C.P w = .ok (.bool (!r)) w:=by
 rw [eql_form t x y h h',neq_form t x y h h',Sem.run_bind,Sem.run_bind,he]
 exact ⟨rfl,rfl⟩
theorem guard_free {op:BinOp} {t:TypeId} {ox oy:Operand} {x y:Value} (w:World) (h:(∀ as bs,¬ (x = .agg as∧y = .agg bs))∧¬ (x = .nilIface∧y = .nilIface)):(eqGuard op t ox oy x y).run C.P w = .ok () w:=by
 cases op<;>first
  |rfl
  |(cases x<;>cases y<;>first|rfl|exact absurd ⟨rfl,rfl⟩ h.2|exact absurd ⟨rfl,rfl⟩ (h.1 _ _))
theorem run_nil (hC:C.Ok) {E:Env} {i:TI} {t:TypeId} (hi:C.T t=some i) {a b:AVal} {x y:Value} {r:Bool} (h:nilEq a b=some r) (h1:nilKind i.d a=true) (h2:nilKind i.d b=true) (hx:R E a x) (hy:R E b y) (w:World) :
  nonScalar x=true∧nonScalar y=true∧(Op.equal t x y).run C.P w = .ok r w∧((∀ as bs,¬ (x = .agg as∧y = .agg bs))∧¬ (x = .nilIface∧y = .nilIface)):=by
 have hu:=(hC.T.ok t i hi).1
 have key:∀ (x y:Value) (r:Bool),(∀ d:Nat,(Op.equalIn (d+1) t x y).run C.P w = .ok r w)→(Op.equal t x y).run C.P w = .ok r w:=fun x y r h=>h 9999
 unfold nilEq at h
 split at h<;>(try cases h)<;>cases hx<;>cases hy <;>
  (refine ⟨rfl,rfl,key _ _ _ fun d=>?_,⟨fun _ _ hh=>(by cases hh.1),fun hh=>(by cases hh.1)⟩⟩
   cases hd:i.d<;>simp only [hd,nilKind,reduceCtorEq] at h1 h2<;>rw [hd] at hu <;>
    (simp only [Op.equalIn,Sem.run_bind,run_underlying hu,Result.andThen_ok];rfl))
theorem step_bin (hC:C.Ok) {op:BinOp} {t ty:TypeId} {x y:Operand} (ho:o.op = .binOp op t x y ty) (h:aBin C S op t x y (aEval C g x) (aEval C g y)=some out) (hs:out.sd):OpOk C o g S out.r out.S:=by
 refine OpOk.of_val (by rw [ho];intro c h;cases h) (fun ρ=>do eqGuard op t x y (ρ x) (ρ y);binOp op t (ρ x) (ρ y)) (fun ρ=>by simp [execOp,ho]) fun E N a hE hS hr=>?_
 have hx:=R.eval hE hr x
 have hy:=R.eval hE hr y
 generalize a.eval x=vx at hx
 generalize a.eval y=vy at hy
 have fin:∀ {r:AVal} {z:Value},(eqGuard op t x y vx vy).run C.P E.w = .ok () E.w→(binOp op t vx vy).run C.P E.w = .ok z E.w→R E r z→ROk C.G E S r ((do eqGuard op t x y vx vy;binOp op t vx vy:Sem Value).run C.P E.w):=by
  intro r z h1 h2 h3
  refine ROk.same hS (.pure (x:=z) hE ?_ h3)
  rw [Sem.run_bind,h1]
  exact h2
 unfold aBin at h
 split at h
 ·next k av k' b hex hey =>
  injection h with h;subst h
  rw [hex] at hx;rw [hey] at hy
  rw [hx.int_inv,hy.int_inv] at *
  exact fin (guard_free _ ⟨fun _ _ hh=>(by cases hh.1),fun hh=>(by cases hh.1)⟩) (run_shift (.inl rfl) t k _ _ _ hs _) (.int _ _)
 ·next k av k' b hex hey =>
  injection h with h;subst h
  rw [hex] at hx;rw [hey] at hy
  rw [hx.int_inv,hy.int_inv] at *
  exact fin (guard_free _ ⟨fun _ _ hh=>(by cases hh.1),fun hh=>(by cases hh.1)⟩) (run_shift (.inr rfl) t k _ _ _ hs _) (.int _ _)
 ·next k av k' b _ _ hex hey =>
  obtain ⟨⟨sd,r⟩,hb,rfl⟩:=Option.map_eq_some_iff.1 h
  rw [hex] at hx;rw [hey] at hy
  rw [hx.int_inv,hy.int_inv] at *
  obtain ⟨rfl,hsd⟩:=hs
  obtain ⟨z,h1,h2⟩:=run_binOp_int (P:=C.P) hb hsd t E.w
  exact fin (guard_free _ ⟨fun _ _ hh=>(by cases hh.1),fun hh=>(by cases hh.1)⟩) h1 (h2 E)
 ·next av b hex hey =>
  obtain ⟨⟨sd,r⟩,hb,rfl⟩:=Option.map_eq_some_iff.1 h
  rw [hex] at hx;rw [hey] at hy
  obtain ⟨z,h1,h2⟩:=run_binOp_str (P:=C.P) hb hs hx hy t
  refine fin (guard_free _ ?_) h1 h2
  cases hx;exact ⟨fun _ _ hh=>(by cases hh.1),fun hh=>(by cases hh.1)⟩
 ·next av b hex hey =>
  split at h
  ·next i hi =>
   have hu:=(hC.T.ok t i hi).1
   rw [hex] at hx;rw [hey] at hy
   rw [hx.bool_inv,hy.bool_inv] at *
   split at h
   ·next hd =>
    injection h with h;subst h
    rw [hd] at hu
    exact fin (guard_free _ ⟨fun _ _ hh=>(by cases hh.1),fun hh=>(by cases hh.1)⟩) (run_eqls rfl rfl (run_equal_bool E.w t _ _ hu)).1 (.bool _)
   ·next hd =>
    injection h with h;subst h
    rw [hd] at hu
    exact fin (guard_free _ ⟨fun _ _ hh=>(by cases hh.1),fun hh=>(by cases hh.1)⟩) (run_eqls rfl rfl (run_equal_bool E.w t _ _ hu)).2 (.bool _)
   ·cases h
  ·cases h
 ·next xs ys hex hey =>
  split at h
  ·next i hi =>
   rw [hex] at hx;rw [hey] at hy
   have agg:∀ (op:BinOp) (h0:i.isAgg=true) (h1:flatT C.P C.T 20 t=true) (h2:C.P.eqGuardType C.P.depth t=false) (h3:skbs xs i.zero=true) (h4:skbs ys i.zero=true),
     (eqGuard op t x y vx vy).run C.P E.w = .ok () E.w∧(binOp .eql t vx vy).run C.P E.w = .ok (.bool (decide (xs=ys))) E.w∧(binOp .neq t vx vy).run C.P E.w = .ok (.bool (!decide (xs=ys))) E.w:=by
    intro op h0 h1 h2 h3 h4
    have he:=eq_ok hC.T hC.cells 20 t i hi h1 E 9980 xs ys vx vy h3 h4 (by unfold ofCells;rw [if_pos h0];exact hx) (by unfold ofCells;rw [if_pos h0];exact hy)
    have he':(Op.equal t vx vy).run C.P E.w = .ok (decide (xs=ys)) E.w:=he
    cases hx with
    |agg _ as _ _ =>
     cases hy with
     |agg _ bs _ _ =>
      exact ⟨run_eqGuard_agg E.w op t x y as bs h2,run_eqls rfl rfl he'⟩
   split at h
   ·injection h with h;subst h
    obtain ⟨h0,h1,h2,h3,h4⟩:=hs
    obtain ⟨a1,a2,_⟩:=agg _ h0 h1 h2 h3 h4
    exact fin a1 a2 (.bool _)
   ·injection h with h;subst h
    obtain ⟨h0,h1,h2,h3,h4⟩:=hs
    obtain ⟨a1,_,a2⟩:=agg _ h0 h1 h2 h3 h4
    exact fin a1 a2 (.bool _)
   ·cases h
  ·cases h
 ·next hex hey =>
  rw [hex] at hx;rw [hey] at hy
  cases hx;cases hy
  have key:∀ i m,C.T t=some i→i.d = .interface m→(Op.equal t .nilIface .nilIface).run C.P E.w = .ok true E.w:=by
   intro i m hi hd
   have hu:=(hC.T.ok t i hi).1
   rw [hd] at hu
   have:∀ d:Nat,(Op.equalIn (d+1) t .nilIface .nilIface).run C.P E.w = .ok true E.w:=fun d=>by
    simp only [Op.equalIn,Sem.run_bind,run_underlying hu,Result.andThen_ok];rfl
   exact this 9999
  split at h
  ·injection h with h;subst h
   obtain ⟨i,m,hi,hd⟩:=hs
   refine fin (z:=.bool true) ?_ (run_eqls rfl rfl (key i m hi hd)).1 (.bool _)
   simp [eqGuard]
  ·injection h with h;subst h
   obtain ⟨i,m,hi,hd⟩:=hs
   refine fin (z:=.bool false) ?_ (run_eqls rfl rfl (key i m hi hd)).2 (.bool _)
   simp [eqGuard]
  ·cases h
 ·split at h
  ·next i hi =>
   split at h
   ·injection h with h;subst h
    obtain ⟨n1,n2,n3,n4⟩:=run_nil hC hi ‹nilEq _ _=some _› hs.1 hs.2 hx hy E.w
    exact fin (guard_free _ n4) (run_eqls n1 n2 n3).1 (.bool _)
   ·injection h with h;subst h
    obtain ⟨n1,n2,n3,n4⟩:=run_nil hC hi ‹nilEq _ _=some _› hs.1 hs.2 hx hy E.w
    exact fin (guard_free _ n4) (run_eqls n1 n2 n3).2 (.bool _)
   ·cases h
  ·cases h
end
end
end Go.Am
end
section
namespace Go.Am
open Go
noncomputable section
open Classical
section
variable {C:Cx} {o:Oper} {g:Nat→AVal} {S:St} {out:Out}
theorem parts_ok {E:Env} {N:Nat} {a:Act} (hE:Wf C.G E) (hr:RF E N g a) (parts:Array (Nat × Operand)) (hok:∀ p∈parts.toList,(aEval C g p.2).okc) :
  ∀ j (h:j<(parts.toList.map fun p=>(p.1,aEval C g p.2)).length),(((parts.map fun (i,x)=>(i,a.eval x)).toList.getD j (0,undef)).1=(parts.toList.map fun p=>(p.1,aEval C g p.2))[j].1 ∧
   R E (parts.toList.map fun p=>(p.1,aEval C g p.2))[j].2 ((parts.map fun (i,x)=>(i,a.eval x)).toList.getD j (0,undef)).2∧∃ n,((parts.toList.map fun p=>(p.1,aEval C g p.2))[j].2).fits n):=by
 intro j hj
 simp only [List.length_map,Array.length_toList] at hj
 have e:(parts.map fun (i,x)=>(i,a.eval x)).toList.getD j (0,undef)=((parts[j]).1,a.eval (parts[j]).2):=by
  simp [List.getD,hj]
 rw [e]
 simp only [List.getElem_map,Array.getElem_toList]
 exact ⟨trivial,R.eval hE hr _,_,okc_fits (hok _ (by simp))⟩
theorem step_build (hC:C.Ok) {t:TypeId} {parts:Array (Nat × Operand)} (ho:o.op = .build t parts) (h:aStep C o.op g S=some out) (hs:out.sd):OpOk C o g S out.r out.S:=by
 refine OpOk.of_val (by rw [ho];intro c h;cases h) (fun ρ=>Instr.build t (parts.map fun (i,x)=>(i,ρ x))) (fun ρ=>by simp [execOp,ho]) fun E N a hE hS hr=>?_
 rw [ho] at h
 simp only [aStep] at h
 split at h
 ·next i hi =>
  split at h
  ·next res hres =>
   injection h with h;subst h
   obtain ⟨h1,h2,h3⟩:=hs
   exact (build_ok hC.T hE hi h1 h2 _ _ (by simp) (parts_ok hE hr parts h3) hres).same hS
  ·cases h
 ·cases h
theorem step_buildSlice (hC:C.Ok) {t:TypeId} {n:Nat} {parts:Array (Nat × Operand)} (ho:o.op = .buildSlice t n parts) (h:aStep C o.op g S=some out) (hs:out.sd):OpOk C o g S out.r out.S:=by
 refine OpOk.of_val (by rw [ho];intro c h;cases h) (fun ρ=>Instr.buildSlice t n (parts.map fun (i,x)=>(i,ρ x))) (fun ρ=>by simp [execOp,ho]) fun E N a hE hS hr=>?_
 rw [ho] at h
 simp only [aStep] at h
 split at h
 ·next i hi =>
  split at h
  ·next e hd =>
   have hu:=(hC.T.ok t i hi).1
   rw [hd] at hu
   split at h
   ·next j hj =>
    split at h
    ·next res hres =>
     injection h with h;subst h
     obtain ⟨h1,h2,h3⟩:=hs
     exact (buildSlice_ok (.inl rfl) hE hu (hC.T.ok e j hj) h1 n h2 _ _ (by simp) (parts_ok hE hr parts h3) hres).same hS
    ·cases h
   ·cases h
  ·cases h
 ·cases h
theorem srcTy_ok (hC:C.Ok) {tx:TypeId} {v:AVal} (h:srcTy C tx v):(∀ s,v = .str s→C.P.underlying tx=some .string)∧((∀ s,v ≠ .str s)→∃ e',C.P.underlying tx=some (.slice e')):=by
 unfold srcTy at h
 split at h
 ·next s =>
  obtain ⟨i,hi,hd⟩:=h
  have hu:=(hC.T.ok tx i hi).1
  rw [hd] at hu
  exact ⟨fun _ _=>hu,fun hh=>absurd rfl (hh s)⟩
 ·next hne =>
  obtain ⟨i,e,hi,hd⟩:=h
  have hu:=(hC.T.ok tx i hi).1
  rw [hd] at hu
  exact ⟨fun s hs=>absurd hs (hne s),fun _=>⟨e,hu⟩⟩
theorem OpOk.of_builtin {c:Call} {b:Builtin} {S':St} {r:AVal} (ho:o.op = .call c) (hc:c.callee = .builtin b)
  (h:∀ (E:Env) (N:Nat) (a:Act),Wf C.G E→E.S=S→RF E N g a→∃ s:Sem Value,(∀ cs,builtin b c.argTypes o.type cs (c.args.map a.eval)=(do pure (.value (← s)):Sem Next))∧ROk C.G E S' r (s.run C.P E.w)):OpOk C o g S r S':=by
 refine OpOk.of_run (by rw [ho];intro c h;cases h) fun E N a hE hS hr=>?_
 obtain ⟨s,h0,E',x,h1,h2,h3,h4,h5⟩:=h E N a hE hS hr
 refine ⟨E',x,.value x,?_,.inl rfl,h2,h3,h4,h5⟩
 simp only [execOp,ho,resolve,hc,Sem.run_bind,Sem.run_pure,Result.andThen_ok,invoke]
 rw [h0,Sem.run_bind,h1]
 rfl
theorem append0_ok {P:Program} {G:Nat→Option AVal} {E:Env} (hE:Wf G E) {t tx ty e:TypeId} {i:TI} {k kn:IntKind} {n:Int} (hu:P.underlying t=some (.slice e)) (hun:P.underlying tx=some (.int kn)) (hi:i.ok P e)
  (h1:0<n) (h2:0<i.size) (h3:n≤9223372036854775807) (h4:n.toNat*i.bytes≤140737488355328) :
  ROk G E (E.S++[.grow 0 i.size e]) (.room E.S.length i.size e n.toNat) ((Builtin.append_ #[t,tx] ty #[.slice none 0 0,.int k n]).run P E.w):=by
 obtain ⟨_,inf,z,hinf,hs,hby,hz,hzz,hzl,_,_,_⟩:=hi
 have hn:((n.toNat:Nat):Int)=n:=Int.toNat_of_nonneg (by omega)
 have hrun:=Lib.run_append_nil_zeros (P:=P) E.w t tx ty e inf z k kn hu hun hinf hz n.toNat (by omega) (by omega) (by omega) (by rw [hby];omega)
 rw [hn] at hrun
 have hzs:z.cells.size=i.size:=by rw [← Array.length_toList];exact hzl
 have hge:=grownCap_ge E.w n.toNat 0 e
 have hcm:grownCap E.w n.toNat 0 e≤maxLen:=grownCap_le_maxLen E.w n.toNat 0 e (by simp only [maxLen];omega)
 obtain ⟨x1,w1⟩:=env_push hE (w':=E.w.drew.alloc (.cells (Builtin.zeroCells z.cells n.toNat++Builtin.zeroCells z.cells (grownCap E.w n.toNat 0 e-n.toNat)) e)) ⟨rfl,rfl,rfl,by simp,fun q hq _=>by
   show (E.w.heap.push _)[q]? = _
   rw [Array.getElem?_push_lt hq,Array.getElem?_eq_getElem hq]⟩ E.w.heap.size (Nat.le_refl _) (by simp) (.grow 0 i.size e) (fun _=>.inr
   ⟨E.w.heap.size,_,by show (E.mu++[some E.w.heap.size])[E.S.length]? = _;rw [← hE.len];simp,hE.base,alloc_last E.w.drew _,by simp⟩)
 refine ⟨_,_,hrun,x1,w1,rfl,.room _ _ _ _ E.w.heap.size (grownCap E.w n.toNat 0 e) hge hcm ⟨0,by show (E.S++[_])[E.S.length]? = _;simp,fun _=>⟨by show (E.mu++[some E.w.heap.size])[E.S.length]? = _;rw [← hE.len];simp,_,alloc_last E.w.drew _,?_⟩⟩⟩
 have hsz:∀ q,(Builtin.zeroCells z.cells q).size=q*i.size:=fun q=>by simp [Builtin.zeroCells,hzs]
 rw [Array.size_append,hsz,hsz,← Nat.add_mul]
 congr 1
 omega
theorem foldMM_ok {P:Program} {E:Env} (f:Int→Int→Int) (f2:Value→Value→Sem Value) (hf:∀ k a k' b w,(f2 (.int k a) (.int k' b)).run P w = .ok (.int k (f a b)) w) :
  ∀ (xs:List AVal) (vs:List Value),vs.length=xs.length→(∀ j (h1:j<xs.length) (h2:j<vs.length),R E xs[j] vs[j])→∀ r,foldMM f xs=some r →
   ∃ x,(match vs with|[]=>False|y::ys=>(ys.foldlM f2 y).run P E.w = .ok x E.w)∧R E r x:=by
 have key:∀ (rest:List AVal) (k:IntKind) (a:Int) (ys:List Value),ys.length=rest.length→(∀ j (h1:j<rest.length) (h2:j<ys.length),R E rest[j] ys[j])→∀ c,foldI f a rest=some c →
   (ys.foldlM f2 (.int k a)).run P E.w = .ok (.int k c) E.w:=by
  intro rest
  induction rest with
  |nil =>
   intro k a ys hl _ c h
   match ys,hl with
   |[],_=>simp [foldI] at h;subst h;simp
  |cons v rest ih =>
   intro k a ys hl hr c h
   match ys,hl with
   |y::ys,hl =>
    cases v<;>simp only [foldI,reduceCtorEq] at h
    have h1:=hr 0 (by simp) (by simp)
    simp only [List.getElem_cons_zero] at h1
    rw [h1.int_inv,List.foldlM_cons,Sem.run_bind,hf]
    exact ih k _ ys (by simpa using hl) (fun j j1 j2=>hr (j+1) (by simp;omega) (by simp;omega)) c h
 intro xs vs hl hr r h
 match xs,vs,hl with
 |v::rest,y::ys,hl =>
  cases v<;>simp only [foldMM,reduceCtorEq] at h
  obtain ⟨c,hc,rfl⟩:=Option.map_eq_some_iff.1 h
  have h1:=hr 0 (by simp) (by simp)
  simp only [List.getElem_cons_zero] at h1
  refine ⟨_,?_,.int _ c⟩
  simp only
  rw [h1.int_inv]
  exact key rest _ _ ys (by simpa using hl) (fun j j1 j2=>hr (j+1) (by simp;omega) (by simp;omega)) c hc
theorem step_builtin (hC:C.Ok) {c:Call} {b:Builtin} (ho:o.op = .call c) (hc:c.callee = .builtin b) (h:aBuiltin C S b c.argTypes.toList (c.args.toList.map (aEval C g))=some out) (hs:out.sd):OpOk C o g S out.r out.S:=by
 refine OpOk.of_builtin ho hc fun E N a hE hS hr=>?_
 have hall:=fun y=>R.eval hE hr y
 obtain ⟨callee,args,argTypes⟩:=c
 obtain ⟨args⟩:=args
 obtain ⟨argTypes⟩:=argTypes
 simp only at h hc ⊢
 simp only [List.map_toArray]
 unfold aBuiltin at h
 split at h
 ·
  next xs t x hx =>
  match args,hx with
  |[y],hx =>
   simp only [List.map_cons,List.map_nil,List.cons.injEq,and_true] at hx
   refine ⟨Builtin.len_ #[t] o.type #[a.eval y],fun _=>rfl,?_⟩
   have hy:=hall y
   rw [hx] at hy
   unfold aLen at h
   split at h
   ·cases h
   ·next i hi =>
    have hu:=(hC.T.ok t i hi).1
    split at h
    ·next e hd =>
     rw [hd] at hu
     split at h
     ·injection h with h;subst h
      exact (len_sl hE hu hy).same hS
     ·injection h with h;subst h
      exact (len_view hE hu hy).same hS
     ·injection h with h;subst h
      exact (len_vrow hE hu hy).same hS
     ·injection h with h;subst h
      exact (len_ms hE hu hy).same hS
     ·cases h
    ·next hd =>
     rw [hd] at hu
     split at h
     ·injection h with h;subst h
      exact (len_str hE hu hy).same hS
     ·cases h
    ·next n e hd =>
     rw [hd] at hu
     injection h with h;subst h
     exact (len_arr hE hu).same hS
    ·next kt et hd =>
     split at h
     ·injection h with h;subst h
      exact (len_nilmap hC hE hi hd hy).same hS
     ·next b =>
      split at h
      ·next es c hb =>
       injection h with h;subst h
       exact (len_map hC hE hi hd hy (by rw [hS];exact hb)).same hS
      ·cases h
     ·cases h
    ·cases h
 ·
  next xs t tx x v hx =>
  match args,hx with
  |[y,z],hx =>
   simp only [List.map_cons,List.map_nil,List.cons.injEq,and_true] at hx
   refine ⟨Builtin.append_ #[t,tx] o.type #[a.eval y,a.eval z],fun _=>rfl,?_⟩
   have hy:=hall y
   have hz:=hall z
   rw [hx.1] at hy
   rw [hx.2] at hz
   have app:aAppend C S t tx x v=some out→ROk C.G E out.S out.r ((Builtin.append_ #[t,tx] o.type #[a.eval y,a.eval z]).run C.P E.w):=by
    clear h
    intro h
    unfold aAppend at h
    split at h
    ·cases h
    ·next i hi =>
     have hu:=(hC.T.ok t i hi).1
     split at h
     ·next e hd =>
      rw [hd] at hu
      split at h
      ·cases h
      ·next j hj =>
       have hje:=hC.T.ok e j hj
       subst hS
       split at h
       ·next sz nl xs g' =>
        injection h with h;subst h
        obtain ⟨h1,h2,h3,h4,h5,h6⟩:=hs
        subst h1
        exact append_grow hE hu hje (.inl rfl) hy h2 hz h4 (srcTy_ok hC h3).1 (srcTy_ok hC h3).2 h5 h6
       ·next sz nl xs g' =>
        injection h with h;subst h
        obtain ⟨h1,h2,h3,h4,h5,h6⟩:=hs
        subst h1
        exact append_grow hE hu hje (.inr rfl) hy h2 hz h4 (srcTy_ok hC h3).1 (srcTy_ok hC h3).2 h5 h6
       ·next sz tg _ =>
        injection h with h;subst h
        obtain ⟨h3,h4,h5,h6⟩:=hs
        exact append_nil hE hu hje hy hz h4 (srcTy_ok hC h3).1 (srcTy_ok hC h3).2 h5 h6
       ·next sz nl xs _ =>
        injection h with h;subst h
        obtain ⟨h1,h3,h4,h5,h6⟩:=hs
        subst h1
        exact append_full hE hu hje hy hz h4 (srcTy_ok hC h3).1 (srcTy_ok hC h3).2 h5 h6
       ·cases h
     ·cases h
   split at h
   ·next k n =>
    unfold aAppend0 at h
    split at h
    ·cases h
    ·next i hi =>
     have hu:=(hC.T.ok t i hi).1
     split at h
     ·next e hd =>
      rw [hd] at hu
      split at h
      ·cases h
      ·next j hj =>
       injection h with h;subst h
       obtain ⟨h1,h2,h3,h4,q,kn,hq,hqd⟩:=hs
       have hun:=(hC.T.ok tx q hq).1
       rw [hqd] at hun
       subst hS
       rw [hz.int_inv]
       generalize a.eval y=vy at hy
       cases hy
       exact append0_ok hE hu hun (hC.T.ok e j hj) h1 h2 h3 h4
     ·cases h
   ·exact app h
 ·
  next xs t x hx =>
  match args,hx with
  |[y],hx =>
   simp only [List.map_cons,List.map_nil,List.cons.injEq,and_true] at hx
   refine ⟨Builtin.cap_ #[t] o.type #[a.eval y],fun _=>rfl,?_⟩
   have hy:=hall y
   rw [hx] at hy
   unfold aCap at h
   split at h
   ·cases h
   ·next i hi =>
    have hu:=(hC.T.ok t i hi).1
    split at h
    ·next e hd =>
     rw [hd] at hu
     split at h
     ·injection h with h;subst h
      generalize a.eval y=vy at hy
      cases hy
      exact ROk.same hS (.pure (x:=.int .i64 0) hE (by simp [Builtin.cap_,run_underlying hu,goInt]) (.int _ _))
     ·next c _ =>
      injection h with h;subst h
      generalize a.eval y=vy at hy
      cases hy
      exact ROk.same hS (.pure (x:=.int .i64 c) hE (by simp [Builtin.cap_,run_underlying hu,goInt]) (.int _ _))
     ·cases h
    ·cases h
 ·
  next xs t tx x v hx =>
  match args,hx with
  |[y,z],hx =>
   simp only [List.map_cons,List.map_nil,List.cons.injEq,and_true] at hx
   refine ⟨Builtin.copy_ #[t,tx] o.type #[a.eval y,a.eval z],fun _=>rfl,?_⟩
   have hy:=hall y
   have hz:=hall z
   rw [hx.1] at hy
   rw [hx.2] at hz
   unfold aCopy at h
   split at h
   ·cases h
   ·next i hi =>
    have hu:=(hC.T.ok t i hi).1
    split at h
    ·next e hd =>
     rw [hd] at hu
     split at h
     ·cases h
     ·next j hj =>
      have hje:=hC.T.ok e j hj
      subst hS
      split at h
      ·next b off n cap =>
       split at h
       ·next bs tb hb =>
        injection h with h;subst h
        obtain ⟨h1,h2,h3,h4⟩:=hs
        exact copy_view hE hu hje h1 hy hb h2 hz h3 h4
       ·cases h
      ·cases h
    ·cases h
 ·
  next xs t tx x v hx =>
  match args,hx with
  |[y,z],hx =>
   simp only [List.map_cons,List.map_nil,List.cons.injEq,and_true] at hx
   refine ⟨Builtin.delete_ #[t,tx] o.type #[a.eval y,a.eval z],fun _=>rfl,?_⟩
   have hy:=hall y
   have hz:=hall z
   rw [hx.1] at hy
   rw [hx.2] at hz
   subst hS
   unfold aDelete at h
   split at h
   ·cases h
   ·next i hi =>
    split at h
    ·next kt et hd =>
     split at h
     ·injection h with h;subst h
      exact delete_nil hC hE hi hd hy hs hz
     ·next b =>
      split at h
      ·next es c hb =>
       injection h with h;subst h
       exact delete_ok hC hE hi hd hy hb hs hz
      ·cases h
     ·cases h
    ·cases h
 ·
  obtain ⟨r,hr2,rfl⟩:=Option.map_eq_some_iff.1 h
  obtain ⟨x,hx1,hx2⟩:=foldMM_ok (P:=C.P) (E:=E) minI Builtin.min2 (fun k a k' b w=>by simp [Builtin.min2,minI]) (args.map (aEval C g)) (args.map a.eval) (by simp) (fun j h1 h2=>by simp only [List.getElem_map];exact hall _) r hr2
  refine ⟨Builtin.min_ _ o.type (args.map a.eval).toArray,fun _=>rfl,ROk.same hS (.pure hE (x:=x) ?_ hx2)⟩
  cases hl:args.map a.eval with
  |nil=>rw [hl] at hx1;exact hx1.elim
  |cons y ys=>rw [hl] at hx1;simpa [Builtin.min_] using hx1
 ·
  obtain ⟨r,hr2,rfl⟩:=Option.map_eq_some_iff.1 h
  obtain ⟨x,hx1,hx2⟩:=foldMM_ok (P:=C.P) (E:=E) maxI Builtin.max2 (fun k a k' b w=>by simp [Builtin.max2,maxI]) (args.map (aEval C g)) (args.map a.eval) (by simp) (fun j h1 h2=>by simp only [List.getElem_map];exact hall _) r hr2
  refine ⟨Builtin.max_ _ o.type (args.map a.eval).toArray,fun _=>rfl,ROk.same hS (.pure hE (x:=x) ?_ hx2)⟩
  cases hl:args.map a.eval with
  |nil=>rw [hl] at hx1;exact hx1.elim
  |cons y ys=>rw [hl] at hx1;simpa [Builtin.max_] using hx1
 ·cases h
theorem vals_ok {E:Env} {N:Nat} {a:Act} (hE:Wf C.G E) (hr:RF E N g a) (xs:Array Operand) :
  ∀ j (h:j<(xs.toList.map (aEval C g)).length),R E (xs.toList.map (aEval C g))[j] ((xs.map a.eval).getD j undef):=by
 intro j hj
 simp only [List.length_map,Array.length_toList] at hj
 have e:(xs.map a.eval).getD j undef=a.eval xs[j]:=by simp [Array.getD,hj]
 rw [e]
 simp only [List.getElem_map,Array.getElem_toList]
 exact R.eval hE hr _
theorem step_s2a (hC:C.Ok) {t:TypeId} {x:Operand} (ho:o.op = .sliceToArrayPointer t x) (h:aStep C o.op g S=some out) (hs:out.sd):OpOk C o g S out.r out.S:=by
 refine OpOk.of_val (by rw [ho];intro c h;cases h) (fun ρ=>Instr.arrayAt t (ρ x)) (fun ρ=>by simp [execOp,ho]) fun E N a hE hS hr=>?_
 have hx:=R.eval hE hr x
 rw [ho] at h
 simp only [aStep] at h
 split at h
 ·next i hi =>
  split at h
  ·next n e hd =>
   have hu:=(hC.T.ok t i hi).1
   rw [hd] at hu
   split at h
   ·next j hj =>
    split at h
    ·next sz nl xs tg hex =>
     injection h with h;subst h
     rw [hex] at hx
     obtain ⟨h1,h2,h3,h4,h5⟩:=hs
     subst h1
     generalize a.eval x=vx at hx
     cases hx with
     |slnil=>simp at h4;omega
     |sl _ _ _ ad m c f hn hc hm hf hcs hrr ht =>
      subst hn
      refine ROk.same hS (.pure (x:=.pointer (some ad)) hE ?_ ?_)
      ·have:¬ (xs.length<n):=by omega
       simp [Instr.arrayAt,run_underlying hu,this]
      ·refine .cptr _ _ f (fun k hk=>hf k (by simp at hk;omega)) (fun k hk=>?_)
       have hk':k<xs.length:=by simp at hk;omega
       have hc1:=one_cells (h5 (xs[k]) (by
        have e:(xs.take n)[k]'hk=xs[k]:=by simp
        rw [← e];exact List.getElem_mem hk))
       have h0:0<(xs[k]).cells.length:=by rw [hc1];simp
       have:=hrr k hk' 0 h0
       have e0:(xs[k]).cells[0]=xs[k]:=by simpa using List.getElem_of_eq hc1 h0
       rw [e0,Nat.mul_one,Nat.add_zero] at this
       simpa using this
    ·next b off m cap hex =>
     injection h with h;subst h
     rw [hex] at hx
     generalize a.eval x=vx at hx
     cases hx with
     |view _ _ _ _ c hmc hm hb =>
      refine ROk.same hS (.pure (x:=.pointer (some ⟨c,off,none⟩)) hE ?_ (.ptr _ _ _ hm hb))
      have:¬ (m<n):=by have:n≤m:=hs;omega
      simp [Instr.arrayAt,run_underlying hu,this]
    ·cases h
   ·cases h
  ·cases h
 ·cases h
theorem step_appR (hC:C.Ok) {x v:Operand} {t tx:TypeId} (ho:o.op = .call { callee:=.builtin .append,args := #[x,v],argTypes := #[t,tx] }) (h:aAppR C S t tx (aEval C g x) (aEval C g v)=some out∨aAppN C S t tx (aEval C g x) (aEval C g v)=some out) (hs:out.sd) :
  OpOk C o g S out.r out.S:=by
 refine OpOk.of_builtin ho rfl fun E N a hE hS hr=>?_
 have hx:=R.eval hE hr x
 have hv:=R.eval hE hr v
 simp only [List.map_toArray,List.map_cons,List.map_nil]
 refine ⟨Builtin.append_ #[t,tx] o.type #[a.eval x,a.eval v],fun _=>rfl,?_⟩
 subst hS
 rcases h with h|h
 ·unfold aAppR at h
  split at h
  ·next i q hi hq =>
   split at h
   ·next e e' hd hqd =>
    have hu:=(hC.T.ok t i hi).1
    rw [hd] at hu
    have hu':=(hC.T.ok tx q hq).1
    rw [hqd] at hu'
    split at h
    ·cases h
    ·next j hj =>
     have hje:=hC.T.ok e j hj
     split at h
     ·next sz tg hex =>
      injection h with h;subst h
      rw [hex] at hx
      obtain ⟨h1,h2,h3,h4⟩:=hs
      exact append_nilR hE hu hje hx hv h1 hu' h2 h3 h4
     ·next sz hex =>
      injection h with h;subst h
      rw [hex] at hx
      obtain ⟨h1,h2,h3,h4⟩:=hs
      exact append_fullR hE hu hje hx hv h1 hu' h2 h3 h4
     ·next b sz n hex =>
      split at h
      ·next cs e2 hb =>
       injection h with h;subst h
       rw [hex] at hx
       obtain ⟨rfl,rfl,h1,h2,h3,h4,h5⟩:=hs
       exact append_ms hE hu hje hx hb h1 hv h2 hu' h3 h4 h5
      ·cases h
     ·cases h
   ·cases h
  ·cases h
 ·unfold aAppN at h
  split at h
  ·next i q hi hq =>
   split at h
   ·next e e' hd hqd =>
    have hu:=(hC.T.ok t i hi).1
    rw [hd] at hu
    have hu':=(hC.T.ok tx q hq).1
    rw [hqd] at hu'
    split at h
    ·cases h
    ·next j hj =>
     have hje:=hC.T.ok e j hj
     split at h
     ·next sz tg hex =>
      injection h with h;subst h
      rw [hex] at hx
      exact append_none hE hu hje hx (.inr ⟨_,_,rfl⟩) hv hs.1 hu' hs.2
     ·next b sz n hex =>
      injection h with h;subst h
      rw [hex] at hx
      exact append_none hE hu hje hx (.inl ⟨_,_,_,rfl⟩) hv hs.1 hu' hs.2
     ·cases h
   ·cases h
  ·cases h
theorem OpOk.of_unit {S':St} (hnd:∀ c,o.op ≠ .defer c) (s:(Operand→Value)→Sem Unit) (he:∀ ρ,execOp ρ o=do s ρ;pure .skip)
  (h:∀ (E:Env) (N:Nat) (a:Act),Wf C.G E→E.S=S→RF E N g a→∃ E',(s a.eval).run C.P E.w = .ok () E'.w∧Ext E E'∧Wf C.G E'∧E'.S=S'):OpOk C o g S (.raw undef) S':=by
 refine OpOk.of_run hnd fun E N a hE hS hr=>?_
 obtain ⟨E',h1,h2,h3,h4⟩:=h E N a hE hS hr
 refine ⟨E',undef,.skip,?_,.inr ⟨rfl,rfl⟩,h2,h3,h4,.raw _⟩
 rw [he,Sem.run_bind,h1]
 rfl
theorem step_makeMap {t:TypeId} {r:Option Operand} (ho:o.op = .makeMap t r) (h:aMakeMap S (r.map (aEval C g))=some out):OpOk C o g S out.r out.S:=by
 cases r with
 |none =>
  simp only [Option.map_none,aMakeMap,Option.some.injEq] at h
  subst h
  refine OpOk.of_val (by rw [ho];intro c h;cases h) (fun ρ=>Instr.makeMap t none) (fun ρ=>by simp [execOp,ho]) fun E N a hE hS hr=>?_
  subst hS
  exact makeMap_ok hE
 |some r=>simp [aMakeMap] at h
theorem step_update (hC:C.Ok) {t:TypeId} {m k x:Operand} (ho:o.op = .insert t m k x∨o.op = .mapUpdate t m k x) (h:aMapUpdate C S t (aEval C g m) (aEval C g k) (aEval C g x)=some out) (hs:out.sd):OpOk C o g S out.r out.S:=by
 unfold aMapUpdate at h
 split at h
 ·cases h
 ·next i hi =>
  split at h
  ·next kt et hd =>
   split at h
   ·next b hb =>
    split at h
    ·next es c hS0 =>
     injection h with h;subst h
     refine OpOk.of_unit (by intro c h;rcases ho with ho|ho<;>rw [ho] at h<;>cases h) (fun ρ=>Instr.mapUpdate t (ρ m) (ρ k) (ρ x)) (fun ρ=>by rcases ho with ho|ho<;>simp [execOp,ho]) fun E N a hE hS hr=>?_
     subst hS
     have hm:=R.eval hE hr m
     rw [hb] at hm
     exact update_ok hC hE hi hd hm hS0 hs (R.eval hE hr k) (R.eval hE hr x)
    ·next es c hS0 =>
     injection h with h;subst h
     refine OpOk.of_unit (by intro c h;rcases ho with ho|ho<;>rw [ho] at h<;>cases h) (fun ρ=>Instr.mapUpdate t (ρ m) (ρ k) (ρ x)) (fun ρ=>by rcases ho with ho|ho<;>simp [execOp,ho]) fun E N a hE hS hr=>?_
     subst hS
     have hm:=R.eval hE hr m
     rw [hb] at hm
     exact updateX_ok hC hE hi hd hm hS0 hs (R.eval hE hr k) (R.eval hE hr x)
    ·cases h
   ·cases h
  ·cases h
theorem step_lookup (hC:C.Ok) {t:TypeId} {m k:Operand} {ok:Bool} (ho:o.op = .lookup t m k ok) (h:aLookup C S t (aEval C g m) (aEval C g k) ok=some out) (hs:out.sd):OpOk C o g S out.r out.S:=by
 refine OpOk.of_val (by rw [ho];intro c h;cases h) (fun ρ=>Instr.lookup t (ρ m) (ρ k) ok) (fun ρ=>by simp [execOp,ho]) fun E N a hE hS hr=>?_
 subst hS
 have hm:=R.eval hE hr m
 unfold aLookup at h
 split at h
 ·cases h
 ·next i hi =>
  split at h
  ·next kt et hd =>
   split at h
   ·cases h
   ·next j hj =>
    split at h
    ·next hb =>
     injection h with h;subst h
     rw [hb] at hm
     exact lookup_nil hC hE hi hd hj hm hs (R.eval hE hr k) ok
    ·next b hb =>
     split at h
     ·next es c hS0 =>
      injection h with h;subst h
      rw [hb] at hm
      exact lookup_ok hC hE hi hd hj hm hS0 hs (R.eval hE hr k) ok
     ·split at h
      ·next es hS0 =>
       injection h with h;subst h
       rw [hb] at hm
       exact lookupX_ok hC hE hi hd hj hm hS0 hs (R.eval hE hr k) ok
      ·cases h
    ·cases h
  ·cases h
theorem step_mapEntry (hC:C.Ok) {t:TypeId} {m k:Operand} (ho:o.op = .mapEntry t m k) (h:aMapEntry C S t (aEval C g m) (aEval C g k)=some out) (hs:out.sd):OpOk C o g S out.r out.S:=by
 refine OpOk.of_val (by rw [ho];intro c h;cases h) (fun ρ=>Instr.mapEntry t (ρ m) (ρ k)) (fun ρ=>by simp [execOp,ho]) fun E N a hE hS hr=>?_
 subst hS
 have hm:=R.eval hE hr m
 unfold aMapEntry at h
 split at h
 ·cases h
 ·next i hi =>
  split at h
  ·next kt et hd =>
   split at h
   ·cases h
   ·next j hj =>
    split at h
    ·next b hb =>
     split at h
     ·next es c hS0 =>
      injection h with h;subst h
      rw [hb] at hm
      exact mapEntry_ok hC hE hi hd hj hm hS0 hs (R.eval hE hr k)
     ·cases h
    ·cases h
  ·cases h
theorem step_entryStore {t:TypeId} {m k x:Operand} (ho:o.op = .entryStore t m k x) (h:aEntryStore S (aEval C g m) (aEval C g k) (aEval C g x)=some out):OpOk C o g S out.r out.S:=by
 unfold aEntryStore at h
 split at h
 ·next b kk n hb hk =>
  split at h
  ·next es c hS0 =>
   split at h
   ·next p hp =>
    injection h with h;subst h
    refine OpOk.of_unit (by rw [ho];intro c h;cases h) (fun ρ=>Instr.entryStore t (ρ m) (ρ k) (ρ x)) (fun ρ=>by simp [execOp,ho]) fun E N a hE hS hr=>?_
    subst hS
    have hm:=R.eval hE hr m
    have hkk:=R.eval hE hr k
    rw [hb] at hm
    rw [hk] at hkk
    exact entryStore_ok hE hm hS0 hkk (R.eval hE hr x) hp
   ·cases h
  ·cases h
 ·cases h
theorem step_range (hC:C.Ok) {t:TypeId} {x:Operand} (ho:o.op = .range t x) (h:aRange C S t (aEval C g x)=some out):OpOk C o g S out.r out.S:=by
 refine OpOk.of_val (by rw [ho];intro c h;cases h) (fun ρ=>Instr.range t (ρ x)) (fun ρ=>by simp [execOp,ho]) fun E N a hE hS hr=>?_
 subst hS
 have hm:=R.eval hE hr x
 unfold aRange at h
 split at h
 ·cases h
 ·next i hi =>
  split at h
  ·next hd =>
   split at h
   ·next s hb =>
    injection h with h;subst h
    rw [hb] at hm
    exact range_str hC hE hi hd hm
   ·cases h
  ·next kt et hd =>
   split at h
   ·next hb =>
    injection h with h;subst h
    rw [hb] at hm
    exact range_nil hC hE hi hd hm
   ·next b hb =>
    split at h
    ·next es c hS0 =>
     injection h with h;subst h
     rw [hb] at hm
     exact range_ok hC hE hi hd hm hS0
    ·next es c hS0 =>
     injection h with h;subst h
     rw [hb] at hm
     exact rangeX_ok hC hE hi hd hm hS0
    ·cases h
   ·cases h
  ·cases h
theorem step_entry {x:Operand} (ho:o.op = .entry x) (h:aEntry S (aEval C g x)=some out) (hs:out.sd):OpOk C o g S out.r out.S:=by
 refine OpOk.of_val (by rw [ho];intro c h;cases h) (fun ρ=>Instr.entry (ρ x)) (fun ρ=>by simp [execOp,ho]) fun E N a hE hS hr=>?_
 subst hS
 exact entry_run_ok hE (R.eval hE hr x) h hs
theorem flat_getD {α:Type} (z:List α) (d:α):∀ (c k j:Nat),k<c→j<z.length→((List.replicate c z).flatten).getD (k*z.length+j) d=z.getD j d:=by
 intro c
 induction c with
 |zero=>intro k j h;omega
 |succ c ih =>
  intro k j hk hj
  rw [List.replicate_succ,List.flatten_cons]
  simp only [List.getD_eq_getElem?_getD]
  cases k with
  |zero=>rw [Nat.zero_mul,Nat.zero_add,List.getElem?_append_left hj]
  |succ k =>
   have e:(k+1)*z.length+j=z.length+(k*z.length+j):=by rw [Nat.add_mul];omega
   rw [e,List.getElem?_append_right (by omega),Nat.add_sub_cancel_left]
   have:=ih k j (by omega) hj
   simpa only [List.getD_eq_getElem?_getD] using this
theorem makeSlice_run {P:Program} (w:World) {t e:TypeId} {i:TI} (hu:P.underlying t=some (.slice e)) (hi:i.ok P e) {n m:Int} (h0:0≤n) (hnm:n≤m) (hm:m≤9223372036854775807) (hb:i.bytes*m.toNat≤140737488355328) :
  ∃ arr:Array Value,(Instr.makeSlice t (.int .i64 n) (.int .i64 m)).run P w = .ok (.slice (some ⟨w.heap.size,0,none⟩) n.toNat m.toNat) (w.alloc (.cells arr e))∧arr.size=((List.replicate m.toNat i.zero).flatten).length ∧
   ∀ (E:Env) p (hp:p<((List.replicate m.toNat i.zero).flatten).length),R E ((List.replicate m.toNat i.zero).flatten)[p] (arr.getD p undef)∧(arr.getD p undef).oneCell'=true:=by
 obtain ⟨arr,hrun,hsz,hrel⟩:=run_makeSlice_row (P:=P) hu hi n.toNat m.toNat (by omega) (by omega) hb w
 have hn:((n.toNat:Nat):Int)=n:=Int.toNat_of_nonneg h0
 have hmm:((m.toNat:Nat):Int)=m:=Int.toNat_of_nonneg (by omega)
 rw [hn,hmm] at hrun
 have hzl:=zero_len hi
 have hcl:(ofCells i i.zero).cells=i.zero:=by
  unfold ofCells
  cases hag:i.isAgg with
  |true=>rfl
  |false =>
   have h1:i.size=1:=by rcases hi.one with h|h;rw [hag] at h;cases h;exact h
   rw [h1] at hzl
   obtain ⟨z,hz⟩:=List.length_eq_one_iff.1 hzl
   have hcz:z.cells=[z]:=by
    obtain ⟨_,_,zz,_,_,_,_,hmap,_⟩:=hi
    rw [hz] at hmap
    have:z∈zz.cells.toList.map Am.ofCell:=by rw [hmap];simp
    obtain ⟨v,_,rfl⟩:=List.mem_map.1 this
    unfold Am.ofCell
    split<;>rfl
   simp only [hz,Bool.false_eq_true,if_false,List.headD_cons]
   exact hcz
 have hlen:((List.replicate m.toNat i.zero).flatten).length=m.toNat*i.size:=by simp [hzl]
 refine ⟨arr,hrun,by rw [hsz,hlen],fun E p hp=>?_⟩
 ·rw [hlen] at hp
  have hpos:0<i.size:=by
   rcases Nat.eq_zero_or_pos i.size with e|e
   ·rw [e] at hp;omega
   ·exact e
  have hk:p/i.size<m.toNat:=by rw [Nat.div_lt_iff_lt_mul hpos];exact hp
  have hj:p%i.size<i.size:=Nat.mod_lt _ hpos
  have hd:p/i.size*i.size+p%i.size=p:=by rw [Nat.mul_comm];exact Nat.div_add_mod p i.size
  have hr:=hrel E (p/i.size) (by simpa using hk) (p%i.size) (by simp only [List.getElem_replicate,hcl,hzl];exact hj)
  simp only [List.getElem_replicate,hd] at hr
  have e2:((List.replicate m.toNat i.zero).flatten)[p]'(by rw [hlen];exact hp)=i.zero[p%i.size]'(by rw [hzl];exact hj):=by
   have:=flat_getD i.zero AVal.any m.toNat (p/i.size) (p%i.size) hk (by rw [hzl];exact hj)
   rw [hzl,hd] at this
   rw [List.getD_eq_getElem?_getD,List.getD_eq_getElem?_getD,List.getElem?_eq_getElem (by rw [hlen];exact hp),List.getElem?_eq_getElem (by rw [hzl];exact hj)] at this
   exact this
  rw [e2]
  have e3:(ofCells i i.zero).cells[p%i.size]'(by rw [hcl,hzl];exact hj)=i.zero[p%i.size]'(by rw [hzl];exact hj):=List.getElem_of_eq hcl _
  rw [← e3]
  exact hr
theorem buildSlice_box {P:Program} {G:Nat→Option AVal} {E:Env} {t e:TypeId} {i:TI} (hE:Wf G E) (hu:P.underlying t=some (.slice e)) (hi:i.ok P e) (hpos:0<i.size) (n:Nat) (hbig:n*i.size≤16777216)
  (ps:List (Nat × AVal)) (qs:Array (Nat × Value)) (hl:qs.size=ps.length)
  (hq:∀ j (h:j<ps.length),(qs.toList.getD j (0,undef)).1=ps[j].1∧R E ps[j].2 (qs.toList.getD j (0,undef)).2∧∃ n,ps[j].2.fits n) {out:List AVal}
  (ho:setElems i.size (List.replicate n (ofCells i i.zero)) ps=some out):ROk G E (E.S++[.cells (flatC out) e]) (.view E.S.length 0 n n) ((Instr.buildSlice t n qs).run P E.w):=by
 obtain ⟨inf,z,hinf,hz,hs,_,hzs,c1,c2,c3⟩:=zeros_ok hi n
 obtain ⟨res,r1,r2,r3,r4,r5⟩:=setElems_ok (E:=E) i.size ps qs.toList _ out ((Array.range (n*i.size)).map (z.cells[· % z.cells.size]!)) (by simpa using hl) hq (by simp) c1 (c2 E) (fun p hp=>c3 p (by simpa using hp)) ho
 have hlen:out.length=n:=by
  have key:∀ (ps:List (Nat × AVal)) (l out:List AVal),setElems i.size l ps=some out→out.length=l.length:=by
   intro ps
   induction ps with
   |nil=>intro l out h;simp only [setElems,Option.some.injEq] at h;rw [h]
   |cons p ps ih =>
    intro l out h
    obtain ⟨k,v⟩:=p
    simp only [setElems] at h
    split at h
    ·simpa using ih _ _ h
    ·cases h
  simpa using key _ _ _ ho
 have hgd:∀ q:Nat,res.toList.getD q undef=res.getD q undef:=fun q=>by simp [List.getD,Array.getD_eq_getD_getElem?]
 obtain ⟨hfl,hfr⟩:=flat_rel (sz:=i.size) (Q:=R E) out res.toList r3 (fun k h j hj=>by rw [hgd];exact r4 k h j hj)
 obtain ⟨E',e1,k1,k2,k3,k4,k5⟩:=new_box hE (flatC out) res e (by rw [r2,hfl]) (fun j hj=>by
  have h2:=hfr j hj
  rw [hgd] at h2
  exact ⟨h2,r5 j (by rw [r2,← hfl];exact hj)⟩)
 have hnot:¬ (n*i.size>2 ^ 24):=by simp;omega
 refine ⟨E',.slice (some ⟨E.w.heap.size,0,none⟩) n n,?_,k1,k2,k3,?_⟩
 ·by_cases h0:n*i.size=0
  ·have e0:(Array.range (n*i.size)).map (z.cells[· % z.cells.size]!) = #[]:=by rw [h0];simp
   rw [e0] at r1
   have e2:Array.map (fun _:Nat=>(default:Value)) (Array.range 0) = #[]:=by simp
   simp [Instr.buildSlice,run_underlying hu,run_sizeOf hinf,hs,h0,e2,r1,newRow,newObj,Sem.run,e1]
  ·simp [Instr.buildSlice,run_underlying hu,run_sizeOf hinf,hs,hnot,h0,zeroValue,typeInfo,hinf,hz,r1,newRow,newObj,Sem.run,e1]
 ·cases k4 with
  |ptr _ _ b hmu hbx=>exact .view _ _ _ _ _ (Nat.le_refl _) hmu hbx
theorem makeSlice_ok {P:Program} {G:Nat→Option AVal} {E:Env} (hE:Wf G E) {t e:TypeId} {i:TI} (hu:P.underlying t=some (.slice e)) (hi:i.ok P e) {n m:Int} (h0:0≤n) (hnm:n≤m) (hm:m≤9223372036854775807) (hb:i.bytes*m.toNat≤140737488355328) :
  ROk G E (E.S++[.cells (List.replicate m.toNat i.zero).flatten e]) (.view E.S.length 0 n.toNat m.toNat) ((Instr.makeSlice t (.int .i64 n) (.int .i64 m)).run P E.w):=by
 obtain ⟨arr,hrun,hsz,hrel⟩:=makeSlice_run (P:=P) E.w hu hi h0 hnm hm hb
 obtain ⟨E',e1,k1,k2,k3,k4,k5⟩:=new_box hE (List.replicate m.toNat i.zero).flatten arr e hsz (hrel E)
 refine ⟨E',_,by rw [hrun,e1],k1,k2,k3,?_⟩
 cases k4 with
 |ptr _ _ b hmu hbx =>
  exact .view _ _ _ _ _ (by omega) hmu hbx
theorem makeSlice_fill {P:Program} {G:Nat→Option AVal} {E:Env} (hE:Wf G E) {t e:TypeId} {i:TI} (hu:P.underlying t=some (.slice e)) (hi:i.ok P e) {n m:Int} (h0:0≤n) (hnm:n≤m) (hm:m≤9223372036854775807) (hb:i.bytes*m.toNat≤140737488355328)
  {k:Nat} (hk:E.S[k]? = some .hole) :
  ROk G E (E.S.set k (.cells (List.replicate m.toNat i.zero).flatten e)) (.view k 0 n.toNat m.toNat) ((Instr.makeSlice t (.int .i64 n) (.int .i64 m)).run P E.w):=by
 obtain ⟨arr,hrun,hsz,hrel⟩:=makeSlice_run (P:=P) E.w hu hi h0 hnm hm hb
 have hkm:k<E.mu.length:=by rw [hE.len];exact (List.getElem?_eq_some_iff.1 hk).1
 obtain ⟨k1,k2⟩:=env_fill hE (w':=E.w.alloc (.cells arr e)) (b:=E.w.heap.size) (.cells (List.replicate m.toNat i.zero).flatten e) hk (World.grownBy_alloc E.w _ none) (Nat.le_refl _) (by simp) (fun hext =>
  ⟨E.w.heap.size,arr,List.getElem?_set_self hkm,heap_new _ _,hsz,fun j hj=>⟨(hrel E j hj).1.ext hE hext,(hrel E j hj).2⟩⟩)
 exact ⟨_,_,hrun,k1,k2,rfl,.view _ _ _ _ _ (by omega) (List.getElem?_set_self hkm) ⟨_,List.getElem?_set_self (List.getElem?_eq_some_iff.1 hk).1,rfl⟩⟩
theorem makeSlice_row {P:Program} {G:Nat→Option AVal} {E:Env} (hE:Wf G E) {t e:TypeId} {i:TI} (hu:P.underlying t=some (.slice e)) (hi:i.ok P e) {m:Int} (h0:0≤m) (hm:m≤9223372036854775807) (hb:i.bytes*m.toNat≤140737488355328) :
  ROk G E (E.S++[.grow 0 i.size e]) (.sl i.size false [] (.grow E.S.length)) ((Instr.makeSlice t (.int .i64 0) (.int .i64 m)).run P E.w):=by
 obtain ⟨arr,hrun,hsz,_⟩:=run_makeSlice_row (P:=P) hu hi 0 m.toNat (Nat.zero_le _) (by omega) hb E.w
 have hmm:((m.toNat:Nat):Int)=m:=Int.toNat_of_nonneg h0
 rw [hmm] at hrun
 have hmu:(E.mu++[some E.w.heap.size])[E.S.length]? = some (some E.w.heap.size):=by rw [← hE.len];simp
 obtain ⟨k1,k2⟩:=env_push hE (w':=E.w.alloc (.cells arr e)) (World.grownBy_alloc E.w _ none) E.w.heap.size (Nat.le_refl _) (by simp) (.grow 0 i.size e)
  (fun hext=>.inr ⟨E.w.heap.size,arr,hmu,hE.base,heap_new _ _,by simp⟩)
 exact ⟨_,_,hrun,k1,k2,rfl,.sl i.size [] (.grow _) ⟨E.w.heap.size,0,none⟩ 0 m.toNat (fun _=>undef) rfl (Nat.zero_le _) (by unfold maxLen;omega) (fun j hj=>by omega) (fun k h=>by simp at h) (fun k h=>by simp at h)
  ⟨0,e,by simp,Nat.le_refl _,fun _=>.inr ⟨E.w.heap.size,arr,hmu,rfl,heap_new _ _,hsz⟩⟩⟩
theorem ofCells_len {P:Program} {e:TypeId} {i:TI} (hi:i.ok P e):(ofCells i i.zero).cells.length=i.size:=by
 have hzl:=zero_len hi
 have hcl:(ofCells i i.zero).cells=i.zero:=by
  unfold ofCells
  cases hag:i.isAgg with
  |true=>rfl
  |false =>
   have h1:i.size=1:=by rcases hi.one with h|h;rw [hag] at h;cases h;exact h
   rw [h1] at hzl
   obtain ⟨z,hz⟩:=List.length_eq_one_iff.1 hzl
   have hcz:z.cells=[z]:=by
    obtain ⟨_,_,zz,_,_,_,_,hmap,_⟩:=hi
    rw [hz] at hmap
    have:z∈zz.cells.toList.map Am.ofCell:=by rw [hmap];simp
    obtain ⟨v,_,rfl⟩:=List.mem_map.1 this
    unfold Am.ofCell
    split<;>rfl
   simp only [hz,Bool.false_eq_true,if_false,List.headD_cons]
   exact hcz
 rw [hcl,hzl]
theorem makeSlice_imm {P:Program} {G:Nat→Option AVal} {E:Env} (hE:Wf G E) {t e:TypeId} {i:TI} (hu:P.underlying t=some (.slice e)) (hi:i.ok P e) {m:Int} (h0:0≤m) (hm:m≤9223372036854775807) (hb:i.bytes*m.toNat≤140737488355328) :
  ROk G E E.S (.sl i.size false (List.replicate m.toNat (ofCells i i.zero)) .full) ((Instr.makeSlice t (.int .i64 m) (.int .i64 m)).run P E.w):=by
 obtain ⟨arr,hrun,hsz,hrel⟩:=run_makeSlice_row (P:=P) hu hi m.toNat m.toNat (Nat.le_refl _) (by omega) hb E.w
 have hmm:((m.toNat:Nat):Int)=m:=Int.toNat_of_nonneg h0
 rw [hmm] at hrun
 have hcl:=ofCells_len hi
 obtain ⟨E',e1,k1,k2,k3,k4⟩:=new_row (.inl rfl) hE i.size (List.replicate m.toNat (ofCells i i.zero)) arr e (by rw [hsz,List.length_replicate]) (by rw [List.length_replicate];unfold maxLen;omega) (fun k h=>by rw [List.getElem_replicate];exact hcl)
  (fun k h j hj=>(hrel E k h j hj).1) (fun p hp=>by
   rw [hsz] at hp
   have hpos:0<i.size:=by
    rcases Nat.eq_zero_or_pos i.size with e|e
    ·rw [e] at hp;omega
    ·exact e
   have hk:p/i.size<m.toNat:=by rw [Nat.div_lt_iff_lt_mul hpos];exact hp
   have hj:p%i.size<i.size:=Nat.mod_lt _ hpos
   have hd:p/i.size*i.size+p%i.size=p:=by rw [Nat.mul_comm];exact Nat.div_add_mod p i.size
   have:=(hrel E (p/i.size) (by simpa using hk) (p%i.size) (by rw [List.getElem_replicate,hcl];exact hj)).2
   rwa [hd] at this)
 rw [List.length_replicate] at k4
 exact ⟨E',_,by rw [hrun,e1],k1,k2,k3,k4⟩
theorem step_makeSlice (hC:C.Ok) {t:TypeId} {l c:Operand} (ho:o.op = .makeSlice t l c) (h:aMakeSlice C S t (aEval C g l) (aEval C g c)=some out) (hs:out.sd):OpOk C o g S out.r out.S:=by
 refine OpOk.of_val (by rw [ho];intro c h;cases h) (fun ρ=>Instr.makeSlice t (ρ l) (ρ c)) (fun ρ=>by simp [execOp,ho]) fun E N a hE hS hr=>?_
 subst hS
 have h1:=R.eval hE hr l
 have h2:=R.eval hE hr c
 unfold aMakeSlice at h
 split at h
 ·cases h
 ·next i hi =>
  split at h
  ·next e hd =>
   split at h
   ·cases h
   ·next j hj =>
    split at h
    ·next k n k' m hl hc =>
     injection h with h;subst h
     obtain ⟨e1,e2,h3,h4,h5,h6⟩:=hs
     rw [e1] at h1
     rw [e2] at h2
     rw [h1.int_inv,h2.int_inv]
     have hu:=(hC.T.ok t i hi).1
     rw [hd] at hu
     exact makeSlice_ok hE hu (hC.T.ok e j hj) h3 h4 h5 h6
    ·cases h
  ·cases h
theorem step_sound (hC:C.Ok) (h:aStep C o.op g S=some out) (hs:out.sd):OpOk C o g S out.r out.S:=by
 have h0:=h
 unfold aStep at h
 split at h
 ·next x ho =>
  injection h with h;subst h
  refine OpOk.of_run (by rw [ho];intro c h;cases h) fun E N a hE hS hr=>?_
  exact ⟨E,a.eval x,.value (a.eval x),by simp [execOp,ho],.inl rfl,Ext.refl E,hE,hS,R.eval hE hr x⟩
 ·next x ho =>
  injection h with h;subst h
  refine OpOk.of_run (by rw [ho];intro c h;cases h) fun E N a hE hS hr=>?_
  exact ⟨E,a.eval x,.value (a.eval x),by simp [execOp,ho],.inl rfl,Ext.refl E,hE,hS,R.eval hE hr x⟩
 ·next c x y ho =>
  split at h
  ·next t hc =>
   injection h with h;subst h
   refine OpOk.of_run (by rw [ho];intro c h;cases h) fun E N a hE hS hr=>?_
   have hcc:=R.eval hE hr c
   rw [hc] at hcc
   refine ⟨E,if t=true then a.eval x else a.eval y,.value (if t=true then a.eval x else a.eval y),?_,.inl rfl,Ext.refl E,hE,hS,?_⟩
   ·simp only [execOp,ho,hcc.bool_inv,asBool,Sem.run_bind,Sem.run_pure,Result.andThen_ok]
   ·split
    ·exact R.eval hE hr x
    ·exact R.eval hE hr y
  ·cases h
 ·next t ho =>
  split at h
  ·next i hi =>
   injection h with h;subst h
   refine OpOk.of_val (by rw [ho];intro c h;cases h) (fun _=>Instr.alloc t true (.tuple #[])) (fun ρ=>by simp [execOp,ho]) fun E N a hE hS hr=>?_
   subst hS
   exact alloc_ok hE (hC.T.ok t i hi)
  ·cases h
 ·next t x ho =>
  injection h with h;subst h
  refine OpOk.of_val (by rw [ho];intro c h;cases h) (fun ρ=>Instr.box t (ρ x)) (fun ρ=>by simp [execOp,ho]) fun E N a hE hS hr=>?_
  subst hS
  exact box_ok hE (R.eval hE hr x) (okc_fits hs)
 ·next t parts ho=>exact step_build hC ho h0 hs
 ·next t n parts ho=>exact step_buildSlice hC ho h0 hs
 ·next t x ho=>exact step_load hC ho h hs
 ·next t x y ho=>exact step_store hC ho h hs
 ·next x ho =>
  have key:∀ (v:AVal) (r:AVal),aEval C g x=v→(∀ (E:Env) (z:Value),R E v z→(match z with|.pointer (some _)=>True|.func (.func _) _ _=>True|_=>False))→OpOk C o g S v S:=by
   intro v _ hv hkind
   refine OpOk.of_run (by rw [ho];intro c h;cases h) fun E N a hE hS hr=>?_
   have hx:=R.eval hE hr x
   rw [hv] at hx
   have hk:=hkind E _ hx
   refine ⟨E,a.eval x,.value (a.eval x),?_,.inl rfl,Ext.refl E,hE,hS,hx⟩
   simp only [execOp,ho]
   generalize a.eval x=z at hk
   split at hk
   ·rfl
   ·rfl
   ·exact hk.elim
  split at h
  ·next b oo he =>
   injection h with h;subst h
   exact key _ .any he fun E z hz=>by cases hz;trivial
  ·next cs he =>
   injection h with h;subst h
   exact key _ .any he fun E z hz=>by cases hz;trivial
  ·next f as bs he =>
   injection h with h;subst h
   exact key _ .any he fun E z hz=>by cases hz;trivial
  ·cases h
 ·next op t x y ty ho=>exact step_bin hC ho h hs
 ·next op t x ho =>
  refine OpOk.of_val (by rw [ho];intro c h;cases h) (fun ρ=>Op.unary op (ρ x)) (fun ρ=>by simp [execOp,ho]) fun E N a hE hS hr=>?_
  have hx:=R.eval hE hr x
  unfold aUn at h
  split at h
  ·next k n he =>
   injection h with h;subst h
   rw [he] at hx
   rw [hx.int_inv]
   exact ROk.same hS (.pure (x:=.int k (k.wrap (0-n))) hE rfl (.int _ _))
  ·next k n he =>
   injection h with h;subst h
   rw [he] at hx
   rw [hx.int_inv]
   exact ROk.same hS (.pure (x:=.int k (bits .xor k (if k.signed then -1 else k.max) n)) hE rfl (.int _ _))
  ·next b he =>
   injection h with h;subst h
   rw [he] at hx
   rw [hx.bool_inv]
   exact ROk.same hS (.pure (x:=.bool (!b)) hE rfl (.bool _))
  ·cases h
 ·next src dst x ho=>exact step_convert hC ho h hs
 ·next t x ho=>exact step_s2a hC ho h0 hs
 ·next t x ho =>
  injection h with h;subst h
  refine OpOk.of_val (by rw [ho];intro c h;cases h) (fun ρ=>Instr.makeInterface t (ρ x)) (fun ρ=>by simp [execOp,ho]) fun E N a hE hS hr=>?_
  exact ROk.same hS (.pure hE (run_makeInterface E.w t _ hs) (.ifc _ _ _ (R.eval hE hr x)))
 ·next f as bs ho =>
  injection h with h;subst h
  refine OpOk.of_val (by rw [ho];intro c h;cases h) (fun ρ=>Instr.makeFunc f (as.map ρ) (bs.map ρ)) (fun ρ=>by simp [execOp,ho]) fun E N a hE hS hr=>?_
  exact ROk.same hS (.pure (x:=.func f (as.map a.eval) (bs.map a.eval)) hE rfl (.fn _ _ _ _ _ (by simp) (by simp) (vals_ok hE hr as) (vals_ok hE hr bs)))
 ·next t x lo hi mx ho=>exact step_slice hC ho h hs
 ·next t x k ho=>exact step_fieldAddr hC ho h hs
 ·next t x k ho=>exact step_field hC ho h hs
 ·next t x y ho=>exact step_indexAddr hC ho h hs
 ·next t x y ho=>exact step_index hC ho h hs
 ·next x k ho =>
  split at h
  ·next vs he =>
   injection h with h;subst h
   refine OpOk.of_val (by rw [ho];intro c h;cases h) (fun ρ=>Instr.extract (ρ x) k) (fun ρ=>by simp [execOp,ho]) fun E N a hE hS hr=>?_
   have hx:=R.eval hE hr x
   rw [he] at hx
   generalize a.eval x=z at hx
   have hk:k<vs.length:=hs
   cases hx with
   |tup _ as h1 hx =>
    have hk':k<as.size:=by omega
    refine ROk.same hS (.pure (x:=as[k]) hE (by simp [Instr.extract,hk']) ?_)
    have:=hx k hk
    simpa [Array.getD,hk',List.getD,hk] using this
  ·cases h
 ·next t r ho=>exact step_makeMap ho h
 ·next t m k x ho=>exact step_update hC (.inl ho) h hs
 ·next t m k x ho=>exact step_update hC (.inr ho) h hs
 ·next t m k ok ho=>exact step_lookup hC ho h hs
 ·next t m k ho=>exact step_mapEntry hC ho h hs
 ·next t m k x ho=>exact step_entryStore ho h
 ·next t x ho=>exact step_range hC ho h
 ·next x ho=>exact step_entry ho h hs
 ·next x ho =>
  refine OpOk.of_val (by rw [ho];intro c h;cases h) (fun ρ=>Instr.next (ρ x) true o.type) (fun ρ=>by simp [execOp,ho]) fun E N a hE hS hr=>?_
  subst hS
  exact nextS_ok hE (R.eval hE hr x) h _
 ·next t l c ho=>exact step_makeSlice hC ho h hs
 ·next c ho =>
  split at h
  ·next b hc=>exact step_builtin hC ho hc h hs
  ·cases h
 ·cases h
end
end
end Go.Am
end
