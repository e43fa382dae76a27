/- The abstract layer: contracts that are proved over any program (Derived/Shelf), as contracts of the layer; variables of the program's that are known. -/
import Derived.Test.YteemcehaekffeaaGreatAmRow
import Derived.Test.YteemcehaekffeaaGreatAmLib
import Derived.Lib.LaidTab
import Derived.Lib.ItoaNum
import Derived.Sort.Grow
import Derived.Below
import Derived.Lib.ConvBytes
import Derived.Deep.Draws
import Derived.Shelf.Vars
import Derived.Stop.LaidErr
import Derived.Handed
set_option linter.unusedVariables false
set_option linter.unusedSimpArgs false
namespace Go.Am
open Go
theorem grown_below {w w':World} (h:RowKit.Below w.heap.size w w'):w.grownBy w' none:=⟨h.os,h.tape,h.output,h.size,fun k hk _=>h.block k hk⟩
theorem GL.tab {P:Program} {E:Env} {name:String} {k:IntKind} {zs:List Int} {g:Nat} (hn:P.globalNamed name=some g) (h:GL E g (.cptr (zs.map fun z=>.int k z))):Lib.TabIs P E.w name k zs:=by
 obtain ⟨arr,t,m,h1,h2,_⟩:=h.obj
 unfold Lib.TabIs World.var?
 rw [hn]
 simp only [Option.bind_some,h1,Option.some.injEq]
 have hs:=h2 _ rfl
 apply Array.ext
 ·simpa using hs
 ·intro j hj hj'
  have hjz:j<zs.length:=by simpa using hj'
  cases h.r with
  |cptr _ _ f hf hr =>
   have a:=(hf j (by simpa using hjz)).2.1
   have b:=hr j (by simpa using hjz)
   simp only [List.getElem_map] at b
   have b:=b.int_inv
   rw [add_form _ _ rfl] at a
   simp only [World.cell?,h1,Nat.zero_add,Option.isSome_none,Bool.false_eq_true,if_false] at a
   rw [Array.getElem?_eq_getElem hj] at a
   injection a with a
   rw [a,b]
   simp
theorem GL.int {E:Env} {g:Nat} (h:GL E g (.cptr [.any])):∃ m:Int,E.w.cell? ⟨g,0,none⟩=some (.int .i64 m):=by
 obtain ⟨arr,t,m,h1,_,h3,_⟩:=h.obj
 obtain ⟨n,rfl⟩:=h3 rfl
 exact ⟨n,by simp [World.cell?,h1]⟩
theorem GL.iface {E:Env} {g:Nat} (h:GL E g .any):∃ x,E.w.cell? ⟨g,0,none⟩=some x∧(x = .nilIface∨∃ te pe,x = .iface te pe):=by
 obtain ⟨arr,t,m,h1,_,_,h4⟩:=h.obj
 obtain ⟨x,rfl,hx⟩:=h4 rfl
 exact ⟨x,by simp [World.cell?,h1],hx⟩
def concV:AVal→Option Value
 |.int k n=>some (.int k n)
 |.bool b=>some (.bool b)
 |.str l=>some (.string ⟨l.toArray⟩)
 |_=>none
theorem R.conc {E:Env} {a:AVal} {x v:Value} (h:R E a x) (hc:concV a=some v):x=v:=by
 cases h<;>simp only [concV,Option.some.injEq,reduceCtorEq] at hc
 ·exact hc
 ·exact hc
 ·next s l h =>
  subst hc
  subst h
  rfl
theorem callable_of {P:Program} {f:FuncId} {fn:Func} (h:P.funcs[f]? = some fn) (h1:fn.body.isSome=true) (h2:(fn.name == "runtime.NumGoroutine")=false) :
  ∃ fn,P.funcs[f]? = some fn∧fn.body.isSome=true∧(fn.name == "runtime.NumGoroutine")=false:=⟨fn,h,h1,h2⟩
theorem apure_shelf {C:Cx} {f:FuncId} {args:List AVal} {vs:List Value} {r:AVal} (hf:∃ fn,C.P.funcs[f]? = some fn∧fn.body.isSome=true∧(fn.name == "runtime.NumGoroutine")=false) (hc:args.map concV=vs.map some)
  (h:∀ (w:World) (im0:Nat→Nat→Prop),(∀ g v,C.G g=some v→GL (env0 w im0) g v)→Calls C.P f vs.toArray w fun e w'=>∃ v,e = .returned v∧w.grownBy w' none∧R ⟨w',[],[],w.heap.size,im0,w.heap.size⟩ r v):APure C f args r:=by
 refine ⟨hf,fun w im0 us hE hs hr=>?_⟩
 have e:us=vs.toArray:=by
  have hl:args.length=vs.length:=by simpa using congrArg List.length hc
  apply Array.ext
  ·simp [hs,hl]
  ·intro j hj hj'
   have hja:j<args.length:=by omega
   have h1:=hr j hja
   have h2:concV args[j]=some vs[j]! := by
    have:=congrArg (fun l=>l[j]?) hc
    simp only [List.getElem?_map,List.getElem?_eq_getElem hja,List.getElem?_eq_getElem (show j<vs.length by omega),Option.map_some,Option.some.injEq] at this
    rw [this];simp [show j<vs.length by omega]
   have:=h1.conc h2
   simp only [Array.getD,hj,dite_true] at this
   have hjv:j<vs.length:=by omega
   simpa [hjv] using this
 rw [e]
 exact h w im0 hE.glob
inductive TT
 |z
 |n (l:TT) (k:Nat) (v:TI) (r:TT)
def TT.get:TT→Nat→Option TI
 |.z,_=>none
 |.n l k v r,t=>bif Nat.blt t k then l.get t else bif Nat.beq t k then some v else r.get t
def TT.lt (m:Nat):TT→Bool
 |.z=>true
 |.n l k _ r=>l.lt m&&(Nat.blt k m&&r.lt m)
theorem TT.big {m:Nat}:∀ {T:TT},T.lt m=true→∀ {t:Nat},m≤t→T.get t=none
 |.z,_,_,_=>rfl
 |.n l k v r,h,t,ht=>by
  simp only [TT.lt,Bool.and_eq_true] at h
  have h2:=blt_iff.1 h.2.1
  have e1:Nat.blt t k=false:=by
   cases hb:Nat.blt t k with
   |false=>rfl
   |true=>have:=blt_iff.1 hb;omega
  have e2:Nat.beq t k=false:=by
   cases hb:Nat.beq t k with
   |false=>rfl
   |true=>have:=Nat.eq_of_beq_eq_true hb;omega
  simp only [TT.get,e1,e2,cond_false]
  exact TT.big h.2.2 ht
end Go.Am
