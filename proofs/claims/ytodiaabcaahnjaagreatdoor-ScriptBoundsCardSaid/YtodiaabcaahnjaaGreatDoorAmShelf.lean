/- The abstract layer: contracts that are proved over any program (Derived/Shelf), as contracts of the layer; variables of the program's that are known. -/
import Derived.Test.YtodiaabcaahnjaaGreatDoorAmRow
import Derived.Test.YtodiaabcaahnjaaGreatDoorAmLib
import Derived.Lib.LaidTab
import Derived.Lib.ItoaNum
import Derived.Sort.Grow
import Derived.Below
import Derived.Lib.ConvBytes
import Derived.Deep.Draws
import Derived.Shelf.Vars
import Derived.Stop.LaidErr
import Derived.Handed
set_option linter.unusedVariables false
set_option linter.unusedSimpArgs false
namespace Go.Am
open Go
theorem grown_same (w:World):w.grownBy w none:=⟨rfl,rfl,rfl,Nat.le_refl _,fun _ _ _=>rfl⟩
theorem grown_grow (w:World) (k:Nat) (os:Array Obj):w.grownBy (Sort.grow (w.drewN k) os) none :=
 ⟨rfl,rfl,rfl,by simp,fun i hi _=>by
  show (w.heap++os)[i]? = w.heap[i]?
  rw [Array.getElem?_append_left hi]⟩
theorem grown_below {w w':World} (h:RowKit.Below w.heap.size w w'):w.grownBy w' none:=⟨h.os,h.tape,h.output,h.size,fun k hk _=>h.block k hk⟩
theorem grown_alloc (w:World) (o:Obj):w.grownBy (w.alloc o) none :=
 ⟨rfl,rfl,rfl,by show _≤(w.heap.push o).size;rw [Array.size_push];omega,fun i hi _=>by
  show (w.heap.push o)[i]? = w.heap[i]?
  rw [Array.getElem?_push_lt hi,Array.getElem?_eq_getElem hi]⟩
theorem grown_drawn {w:World} (n:Nat):w.grownBy (w.drewN n) none:=⟨rfl,rfl,rfl,Nat.le_refl _,fun _ _ _=>rfl⟩
theorem gl_vals {w:World} {g:Nat} {cs:List AVal} {arr:Array Value} {t:TypeId} {m:Nat × Nat} (hg:w.heap[g]? = some (.cells arr t m)) (hlen:arr.size=cs.length)
  (hr:∀ j (h:j<cs.length),R (env0 w fun _ _=>True) cs[j] (arr.getD j undef)∧(arr.getD j undef).oneCell'=true) (hint:cs=[.any]→∃ n:Int,arr = #[.int .i64 n]) :
  GL (env0 w fun _ _=>True) g (.cptr cs):=by
 have hlt:g<w.heap.size:=by
  rcases Nat.lt_or_ge g w.heap.size with h|h
  ·exact h
  ·rw [Array.getElem?_eq_none h] at hg;cases hg
 refine ⟨.cptr cs _ (fun j=>arr.getD j undef) (fun j hj=>?_) (fun j hj=>(hr j hj).1),fun i=>by simp [env0],arr,t,m,hg,(fun cs' h=>by injection h with h;rw [← h];exact hlen),(fun h=>hint (by injection h)),(fun h=>by cases h)⟩
 have hj':j<arr.size:=by rw [hlen];exact hj
 refine ⟨rfl,?_,⟨hlt,.inl ⟨hlt,trivial⟩⟩,(hr j hj).2⟩
 rw [add_form _ _ rfl]
 simp [env0,World.cell?,hg,Array.getD,hj']
theorem gl_int {w:World} {g:Nat} {n:Int} {t:TypeId} {m:Nat × Nat} (hg:w.heap[g]? = some (.cells #[.int .i64 n] t m)):GL (env0 w fun _ _=>True) g (.cptr [.any]) :=
 gl_vals hg rfl (fun j hj=>by
  have:j=0:=by simpa using hj
  subst this
  exact ⟨.any _,rfl⟩) fun _=>⟨n,rfl⟩
theorem gl_iface {w:World} {g:Nat} {x:Value} {t:TypeId} {m:Nat × Nat} (hg:w.heap[g]? = some (.cells #[x] t m)) (hx:x = .nilIface∨∃ te pe,x = .iface te pe):GL (env0 w fun _ _=>True) g .any :=
 ⟨.any _,fun i=>by simp [env0],#[x],t,m,hg,(fun cs h=>by cases h),(fun h=>by cases h),fun _=>⟨x,rfl,hx⟩⟩
theorem gl_tab {P:Program} {w:World} {name:String} {k:IntKind} {zs:List Int} {g:Nat} (hn:P.globalNamed name=some g) (h:Lib.TabIs P w name k zs):GL (env0 w fun _ _=>True) g (.cptr (zs.map fun z=>.int k z)):=by
 unfold Lib.TabIs World.var? at h
 rw [hn] at h
 simp only [Option.bind_some] at h
 split at h
 ·next arr t m hg =>
  injection h with h
  subst h
  refine gl_vals hg (by simp) (fun j hj=>?_) fun h=>?_
  ·have hj':j<zs.length:=by simpa using hj
   simp [Array.getD,hj',Value.oneCell',R.int]
  ·cases zs with
   |nil=>cases h
   |cons z zs=>cases zs<;>cases h
 ·cases h
theorem GL.tab {P:Program} {E:Env} {name:String} {k:IntKind} {zs:List Int} {g:Nat} (hn:P.globalNamed name=some g) (h:GL E g (.cptr (zs.map fun z=>.int k z))):Lib.TabIs P E.w name k zs:=by
 obtain ⟨arr,t,m,h1,h2,_⟩:=h.obj
 unfold Lib.TabIs World.var?
 rw [hn]
 simp only [Option.bind_some,h1,Option.some.injEq]
 have hs:=h2 _ rfl
 apply Array.ext
 ·simpa using hs
 ·intro j hj hj'
  have hjz:j<zs.length:=by simpa using hj'
  cases h.r with
  |cptr _ _ f hf hr =>
   have a:=(hf j (by simpa using hjz)).2.1
   have b:=hr j (by simpa using hjz)
   simp only [List.getElem_map] at b
   have b:=b.int_inv
   rw [add_form _ _ rfl] at a
   simp only [World.cell?,h1,Nat.zero_add,Option.isSome_none,Bool.false_eq_true,if_false] at a
   rw [Array.getElem?_eq_getElem hj] at a
   injection a with a
   rw [a,b]
   simp
theorem GL.int {E:Env} {g:Nat} (h:GL E g (.cptr [.any])):∃ m:Int,E.w.cell? ⟨g,0,none⟩=some (.int .i64 m):=by
 obtain ⟨arr,t,m,h1,_,h3,_⟩:=h.obj
 obtain ⟨n,rfl⟩:=h3 rfl
 exact ⟨n,by simp [World.cell?,h1]⟩
theorem GL.iface {E:Env} {g:Nat} (h:GL E g .any):∃ x,E.w.cell? ⟨g,0,none⟩=some x∧(x = .nilIface∨∃ te pe,x = .iface te pe):=by
 obtain ⟨arr,t,m,h1,_,_,h4⟩:=h.obj
 obtain ⟨x,rfl,hx⟩:=h4 rfl
 exact ⟨x,by simp [World.cell?,h1],hx⟩
theorem gl_int_shaped {P:Program} {w:World} {g:Nat} {t:TypeId} {zero:Array Value} (h:w.ShapedOpen P) (hg:g<P.globals.size) (h0:((begin P (fun _ _=>0) default).world.heap[g]?).bind Obj.row? = some (zero,t)) (hz:zero.size=1)
  (hb:P.buildable t=true) (hc:P.cellTypes P.depth t=some [t]) (hu:P.underlying t=some (.int .i64)):GL (env0 w fun _ _=>True) g (.cptr [.any]):=by
 obtain ⟨m,hm⟩:=Proofs.cell_of_shapedOpen_int h hg h0 hz hb hc hu
 obtain ⟨cs,hh,hs,_⟩:=h.1 g zero t hg h0
 have h1:0<cs.size:=by omega
 have e0:cs[0] = .int .i64 m:=by simpa [World.cell?,hh,h1] using hm
 have e:cs = #[.int .i64 m]:=by
  apply Array.ext
  ·simp;omega
  ·intro i hi hi'
   have:i=0:=by simpa using hi'
   subst this
   simpa using e0
 exact gl_int (by rw [hh,e])
theorem gl_var {P:Program} {w:World} {name:String} {g:Nat} {x:Value} (hn:P.globalNamed name=some g) (h:w.var? P name=some #[x]) (hx:x = .nilIface∨∃ te pe,x = .iface te pe):GL (env0 w fun _ _=>True) g .any:=by
 unfold World.var? at h
 rw [hn] at h
 simp only [Option.bind_some] at h
 split at h
 ·next arr t m hg =>
  injection h with h
  subst h
  exact gl_iface hg hx
 ·cases h
theorem handed_shaped {H:Type} {enc:TypeId × Value→H} {a:Assume} {C:Checked} {os:Os} {f:FuncId} {fn:Func} {s:ChangeSpec} {conds:List PathCond} {apart fresh handsOn again:Bool} {X:World→Array Value→Prop}
  (hX:∀ (w w':World) (args:Array Value),w.heap=w'.heap→X w args→X w' args)
  (own:ownKnob C.prog.godebug=none) (started:os.Started) (noInit:C.prog.inits.idxOf? f=none) (hfn:C.prog.funcs[f]? = some fn)
  (witness:∃ (w:World) (tape:Tape) (i:Input),w.os=os∧(w.forCall tape i).Shaped C.prog∧i.vars=[]∧Input.okWide C.prog (w.forCall tape i) .any w.heap.size f i ∧
   ((s.pre enc C.prog fn conds apart (w.forCall tape i).memory i.args∧X (w.forCall tape i).memory i.args)∧sizedMet enc C.prog fn (OpenSpec.ofChange s) apart (w.forCall tape i).memory i.args)∧a.holds C.prog (lone (Frame.enter C.prog f i.args .normal) [] (w.forCall tape i)))
  (contract:∀ (W:World) (base:Nat) (args:Array Value) (ds gs:List (DataW H)) (before:List MemPlace),
   (∀ (j:Nat) t v,fn.params[j]? = some t→args[j]? = some v→Value.okWide C.prog W .any base t v) →
   DataW.Whole enc C.prog fn.params.toList s.vars apart W args.toList ds gs before →
   conds.all (PathCond.test C.prog ⟨fn.params.toList,ds,s.plain.varTypes C.prog,gs⟩)=true →
   (DataW.weightsEach C.prog (fn.params.toList++s.plain.varTypes C.prog) (ds++gs)).all (·≤ reachBytes)=true→X W args→W.ShapedOpen C.prog →
   Calls C.prog f args W fun e W'=>∃ v,e = .returned v∧s.post enc C.prog fn apart fresh handsOn again W args v W') :
  ReturnsInHanded a C os f .any (fun w args=>(s.pre enc C.prog fn conds apart w args∧X w args)∧sizedMet enc C.prog fn (OpenSpec.ofChange s) apart w args) (s.post enc C.prog fn apart fresh handsOn again):=by
 refine returnsInHanded_of_calls own started noInit witness ?_
 intro w tape i _ hsh _ hok hpre _
 obtain ⟨_,_,_,fn',hfn',_,_,_,_,hval⟩:=hok
 obtain rfl:fn'=fn:=Option.some.inj (hfn'.symm.trans hfn)
 obtain ⟨⟨⟨ds,gs,before,hw,hc⟩,hx⟩,hz⟩:=hpre
 refine (contract (w.forCall tape i) w.heap.size i.args ds gs before hval (DataW.Whole.of_heap (w':=w.forCall tape i) (by rfl) hw) hc (hz.weights hw) (hX _ _ _ (by rfl) hx) hsh).mono fun e W' h=>?_
 obtain ⟨v,he,hp⟩:=h
 subst he
 exact ChangeSpec.post_blind hp
def concV:AVal→Option Value
 |.int k n=>some (.int k n)
 |.bool b=>some (.bool b)
 |.str l=>some (.string ⟨l.toArray⟩)
 |_=>none
theorem R.conc {E:Env} {a:AVal} {x v:Value} (h:R E a x) (hc:concV a=some v):x=v:=by
 cases h<;>simp only [concV,Option.some.injEq,reduceCtorEq] at hc
 ·exact hc
 ·exact hc
 ·next s l h =>
  subst hc
  subst h
  rfl
theorem callable_of {P:Program} {f:FuncId} {fn:Func} (h:P.funcs[f]? = some fn) (h1:fn.body.isSome=true) (h2:(fn.name == "runtime.NumGoroutine")=false) :
  ∃ fn,P.funcs[f]? = some fn∧fn.body.isSome=true∧(fn.name == "runtime.NumGoroutine")=false:=⟨fn,h,h1,h2⟩
theorem apure_shelf {C:Cx} {f:FuncId} {args:List AVal} {vs:List Value} {r:AVal} (hf:∃ fn,C.P.funcs[f]? = some fn∧fn.body.isSome=true∧(fn.name == "runtime.NumGoroutine")=false) (hc:args.map concV=vs.map some)
  (h:∀ (w:World) (im0:Nat→Nat→Prop),(∀ g v,C.G g=some v→GL (env0 w im0) g v)→Calls C.P f vs.toArray w fun e w'=>∃ v,e = .returned v∧w.grownBy w' none∧R ⟨w',[],[],w.heap.size,im0,w.heap.size⟩ r v):APure C f args r:=by
 refine ⟨hf,fun w im0 us hE hs hr=>?_⟩
 have e:us=vs.toArray:=by
  have hl:args.length=vs.length:=by simpa using congrArg List.length hc
  apply Array.ext
  ·simp [hs,hl]
  ·intro j hj hj'
   have hja:j<args.length:=by omega
   have h1:=hr j hja
   have h2:concV args[j]=some vs[j]! := by
    have:=congrArg (fun l=>l[j]?) hc
    simp only [List.getElem?_map,List.getElem?_eq_getElem hja,List.getElem?_eq_getElem (show j<vs.length by omega),Option.map_some,Option.some.injEq] at this
    rw [this];simp [show j<vs.length by omega]
   have:=h1.conc h2
   simp only [Array.getD,hj,dite_true] at this
   have hjv:j<vs.length:=by omega
   simpa [hjv] using this
 rw [e]
 exact h w im0 hE.glob
theorem r_sl_alloc {w:World} {im0:Nat→Nat→Prop} {t:TypeId} {xs:List AVal} {vs:List Value} (hl:xs.length=vs.length) (hm:vs.length≤maxLen) (h1:∀ x∈xs,x.cells=[x])
  (hr:∀ j (h:j<xs.length) (h':j<vs.length),R ⟨w.alloc (.cells vs.toArray t),[],[],w.heap.size,im0,w.heap.size⟩ xs[j] vs[j]∧(vs[j]).oneCell'=true) :
  R ⟨w.alloc (.cells vs.toArray t),[],[],w.heap.size,im0,w.heap.size⟩ (.sl 1 false xs .full) (.slice (some ⟨w.heap.size,0,none⟩) vs.length vs.length):=by
 refine .sl 1 xs .full _ vs.length vs.length (fun j=>vs.toArray.getD j undef) hl.symm (Nat.le_refl _) hm (fun j hj=>?_) (fun k hk=>?_) (fun k hk j hj=>?_) rfl
 ·have hj':j<vs.length:=by omega
  refine ⟨rfl,?_,⟨?_,.inr (.inl ⟨Nat.le_refl _,fun i=>by simp⟩)⟩,?_⟩
  ·rw [add_form _ _ rfl]
   show World.cell? (w.alloc _) _=_
   simp only [World.cell?,alloc_last,Option.isSome_none,Bool.false_eq_true,if_false,Nat.zero_add]
   simp [Array.getD,hj']
  ·show w.heap.size<(w.heap.push _).size
   rw [Array.size_push];omega
  ·have:=(hr j (by omega) hj').2
   simpa [Array.getD,hj'] using this
 ·rw [h1 _ (List.getElem_mem hk)];rfl
 ·have hc:=h1 _ (List.getElem_mem hk)
  have hj0:j=0:=by rw [hc] at hj;simpa using hj
  subst hj0
  have:=(hr k hk (by omega)).1
  simp only [hc,List.getElem_cons_zero]
  simpa [Array.getD,show k<vs.length by omega] using this
theorem law_argsG {H:Type} {enc:TypeId × Value→H} {C:Cx} (hl:laidOutB C.P=true) {k:Nat} {f:FuncId} {ts:List TypeId} (hp:(ts.all fun t=>plainT C.P k t)=true)
  (h:∀ avs,All2 (ArgV C.P k) ts avs→APure C f avs (.bool true)) {w W:World} (hG:∀ g v,C.G g=some v→GL (env0 w fun _ _=>True) g v) {r:Reach} {b:Nat} {args:Array Value} {ds:List (DataW H)} {ps:List MemPlace}
  (ht:DataW.TrodAll enc C.P w 0 (fun _=>true) true ts args.toList ds ps) (hok:∀ (j:Nat) t v,ts[j]? = some t→args.toList[j]? = some v→Value.okWide C.P W r b t v) :
  Calls C.P f args w fun e w'=>e = .returned (.bool true)∧w.grownBy w' none:=by
 obtain ⟨avs,h1,h2⟩:=arg_all (E:=env0 w fun _ _=>True) hl rfl (fun _ _=>trivial) (List.all_eq_true.1 hp) ht hok
 have hE:Wf C.G (env0 w fun _ _=>True) :=
  ⟨rfl,fun i j b h=>by simp [env0] at h,fun i b h=>by simp [env0] at h,Nat.le_refl _,fun b o _ _ i=>by simp [env0],fun i x h=>by simp [env0] at h,hG⟩
 refine ((h avs h1).ok w (fun _ _=>True) args hE (by simpa using h2.length.symm) (fun j hj=>?_)).mono ?_
 ·have hj':j<args.toList.length:=by rw [← h2.length];exact hj
  have:=h2.get j hj hj'
  simpa [Array.getD,show j<args.size by simpa using hj'] using this
 ·rintro e w' ⟨v,rfl,hg,hr⟩
  rw [hr.bool_inv]
  exact ⟨rfl,hg⟩
inductive TT
 |z
 |n (l:TT) (k:Nat) (v:TI) (r:TT)
def TT.get:TT→Nat→Option TI
 |.z,_=>none
 |.n l k v r,t=>bif Nat.blt t k then l.get t else bif Nat.beq t k then some v else r.get t
def TT.lt (m:Nat):TT→Bool
 |.z=>true
 |.n l k _ r=>l.lt m&&(Nat.blt k m&&r.lt m)
theorem TT.big {m:Nat}:∀ {T:TT},T.lt m=true→∀ {t:Nat},m≤t→T.get t=none
 |.z,_,_,_=>rfl
 |.n l k v r,h,t,ht=>by
  simp only [TT.lt,Bool.and_eq_true] at h
  have h2:=blt_iff.1 h.2.1
  have e1:Nat.blt t k=false:=by
   cases hb:Nat.blt t k with
   |false=>rfl
   |true=>have:=blt_iff.1 hb;omega
  have e2:Nat.beq t k=false:=by
   cases hb:Nat.beq t k with
   |false=>rfl
   |true=>have:=Nat.eq_of_beq_eq_true hb;omega
  simp only [TT.get,e1,e2,cond_false]
  exact TT.big h.2.2 ht
end Go.Am
