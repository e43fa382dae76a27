/- The abstract layer: a range over a map whose rounds do not lean on each other, in whichever order they come. -/
import Derived.Test.YteemcehaekffeaaGreatAmExec
import Derived.Test.YteemcehaekffeaaGreatAmMarks
import Derived.LoopNIn
set_option linter.unusedVariables false
set_option linter.unusedSimpArgs false
namespace Go.Am
open Go
noncomputable section
def Env.tell (E:Env) (k:Nat) (y:ABox):Env:={ E with S:=E.S.set k y }
structure Told (E:Env) (k:Nat) (x y:ABox):Prop where
 was:E.S[k]? = some x
 xg:x.isGrow=false
 yg:y.isGrow=false
 xr:x.rd=false
 yr:y.rd=false
section
variable {G:Nat→Option AVal} {E:Env} {k:Nat} {x y:ABox}
theorem tell_box (h:Told E k x y) {i:Nat} (hb:∃ z:ABox,E.S[i]? = some z∧z.isGrow=false):∃ z:ABox,(E.tell k y).S[i]? = some z∧z.isGrow=false:=by
 obtain ⟨z,hz,hg⟩:=hb
 by_cases e:k=i
 ·subst e
  exact ⟨y,List.getElem?_set_self (List.getElem?_eq_some_iff.1 hz).1,h.yg⟩
 ·exact ⟨z,(List.getElem?_set_ne e).trans hz,hg⟩
theorem tell_grow (h:Told E k x y) {i n sz:Nat} {t:TypeId} (hg:E.S[i]? = some (.grow n sz t)):(E.tell k y).S[i]? = some (.grow n sz t):=by
 have e:k≠i:=by
  rintro rfl
  have h1:=h.was
  rw [hg] at h1
  injection h1 with h1
  have h2:=h.xg
  rw [← h1] at h2
  simp [ABox.isGrow] at h2
 exact (List.getElem?_set_ne e).trans hg
theorem tell_Im (h:Told E k x y) {b o:Nat} (hi:E.Im b o):(E.tell k y).Im b o:=by
 obtain ⟨h1,h2⟩:=hi
 refine ⟨h1,?_⟩
 rcases h2 with h2|h2|⟨h2,i,n,sz,t,h3,h4,h5⟩
 ·exact .inl h2
 ·exact .inr (.inl h2)
 ·exact .inr (.inr ⟨h2,i,n,sz,t,h3,tell_grow h h4,h5⟩)
theorem R.tell (h:Told E k x y) {v:AVal} {u:Value} (r:R E v u):R (E.tell k y) v u:=by
 have hol:∀ {ad:Addr} {j:Nat} {z:Value},E.holds ad j z→(E.tell k y).holds ad j z:=fun ⟨h1,h2,h3,h4⟩=>⟨h1,h2,tell_Im h h3,h4⟩
 have tg:∀ {sz:Nat} {t:Tag} {a:Option Addr} {m c:Nat},E.tagOk sz t a m c→(E.tell k y).tagOk sz t a m c:=by
  intro sz t a m c q
  cases t with
  |any=>trivial
  |full=>exact q
  |lit=>exact q
  |grow g =>
   obtain ⟨q,ty,h1,h2,h3⟩:=q
   exact ⟨q,ty,tell_grow h h1,h2,h3⟩
  |own g =>
   obtain ⟨q,ty,h1,h2,h3⟩:=q
   exact ⟨q,ty,tell_grow h h1,h2,h3⟩
 induction r with
 |any x=>exact .any x
 |raw x=>exact .raw x
 |int k n=>exact .int k n
 |bool b=>exact .bool b
 |str s l h=>exact .str s l h
 |nilp=>exact .nilp
 |ptr i off b hm hbx=>exact .ptr i off b hm (tell_box h hbx)
 |cptr cs ad f hf hr ih=>exact .cptr cs ad f (fun j hj=>hol (hf j hj)) fun j hj=>ih j hj
 |slnil sz t ht=>exact .slnil sz t (tg ht)
 |sl sz xs t ad m c f hn hc hm hf hsz hr ht ih=>exact .sl sz xs t ad m c f hn hc hm (fun j hj=>hol (hf j hj)) hsz (fun k hk j hj=>ih k hk j hj) (tg ht)
 |view i off m cap b hnc hm hbx=>exact .view i off m cap b hnc hm (tell_box h hbx)
 |vrow i off m b c hnc hcm hm hbx=>exact .vrow i off m b c hnc hcm hm (tell_box h hbx)
 |ms i sz m b c hnc hcm hm hbx hcp =>
  exact .ms i sz m b c hnc hcm hm (tell_box h hbx) fun cs t q=>by
   have q:(E.S.set k y)[i]? = some (.row cs t):=q
   by_cases e:k=i
   ·subst e
    rw [List.getElem?_set_self (List.getElem?_eq_some_iff.1 h.was).1] at q
    have:=h.yr
    rw [Option.some.inj q] at this
    cases this
   ·exact hcp cs t ((List.getElem?_set_ne e).symm.trans q)
 |nilmap=>exact .nilmap
 |map i b hm hbx=>exact .map i b hm (tell_box h hbx)
 |fn f xs ys as bs h1 h2 hx hy ihx ihy=>exact .fn f xs ys as bs h1 h2 (fun j hj=>ihx j hj) fun j hj=>ihy j hj
 |nilfn=>exact .nilfn
 |ifc t v x hx ih=>exact .ifc t v x ih
 |nilifc=>exact .nilifc
 |agg cs as h1 hx ih=>exact .agg cs as h1 fun j hj=>ih j hj
 |tup cs as h1 hx ih=>exact .tup cs as h1 fun j hj=>ih j hj
 |yld i b hm hbx=>exact .yld i b hm (tell_box h hbx)
 |room g sz t q b c hn hm hq =>
  obtain ⟨m,h1,h2⟩:=hq
  exact .room g sz t q b c hn hm ⟨m,tell_grow h h1,h2⟩
theorem mpOk.tell (h:Told E k x y) {i:Nat} {es:Ents} {c:Nat} (q:mpOk E i es c):mpOk (E.tell k y) i es c:=by
 obtain ⟨b,ms,h1,h2,h3,h4⟩:=q
 exact ⟨b,ms,h1,h2,h3,fun j hj=>⟨(h4 j hj).1.tell h,(h4 j hj).2.1.tell h,(h4 j hj).2.2⟩⟩
theorem entryOk.tell (h:Told E k x y) {i:Nat} {z:ABox} (q:entryOk E i z):entryOk (E.tell k y) i z:=by
 cases z with
 |cells cs t =>
  obtain ⟨b,arr,h1,h2,h3,h4⟩:=q
  exact ⟨b,arr,h1,h2,h3,fun j hj=>⟨(h4 j hj).1.tell h,(h4 j hj).2⟩⟩
 |row cs t =>
  obtain ⟨b,arr,h1,h2,h3,h4⟩:=q
  exact ⟨b,arr,h1,h2,h3,fun j hj=>⟨(h4 j hj).1.tell h,(h4 j hj).2⟩⟩
 |grow m sz t=>exact q
 |frz o =>
  cases o with
  |none=>trivial
  |some es =>
   obtain ⟨c,es',h1,h2⟩:=q
   exact ⟨c,es',h1,h2.tell h⟩
 |mpx es c =>
  obtain ⟨es',h1,h2⟩:=q
  exact ⟨es',h1,h2.tell h⟩
 |dead=>trivial
 |hole=>trivial
 |siter s pos=>exact q
 |mp es c =>
  obtain ⟨b,ms,h1,h2,h3,h4⟩:=q
  exact ⟨b,ms,h1,h2,h3,fun j hj=>⟨(h4 j hj).1.tell h,(h4 j hj).2.1.tell h,(h4 j hj).2.2⟩⟩
 |iter m since seen last =>
  obtain ⟨b,h1,h2⟩:=q
  refine ⟨b,h1,?_⟩
  cases m with
  |none=>exact h2
  |some q =>
   obtain ⟨c,k1,k2,k3⟩:=h2
   exact ⟨c,k1,tell_box h k2,k3⟩
 |loop fr N ps asg body st pend tag =>
  obtain ⟨b,r,h1,h2,h3,h4,h5,h6,h7,h8,h9⟩:=q
  exact ⟨b,r,h1,h2,h3,h4,h5,h6,h7,h8,fun t=>(h9 t).tell h⟩
theorem GL.tell {g:Nat} {v:AVal} (q:GL E g v) (h:Told E k x y):GL (E.tell k y) g v:=⟨q.r.tell h,q.free,q.obj⟩
theorem Wf.tell (hE:Wf G E) (h:Told E k x y) (hy:entryOk (E.tell k y) k y):Wf G (E.tell k y):=by
 refine ⟨?_,fun i j b h1 h2 d=>hE.inj i j b h1 h2 fun e=>d (share_set h.was (by rw [h.xr];exact nofun) (fun e=>by have:=h.xr;rw [e] at this;cases this) e),hE.lt,hE.base,hE.im,fun i z hz=>?_,fun g v hg=>(hE.glob g v hg).tell h⟩
 ·show E.mu.length=(E.S.set k y).length
  simp [hE.len]
 ·by_cases e:k=i
  ·subst e
   have hlt:=(List.getElem?_eq_some_iff.1 h.was).1
   have hz:(E.S.set k y)[k]? = some z:=hz
   rw [List.getElem?_set_self hlt] at hz
   injection hz with hz
   subst hz
   exact hy
  ·have hz:(E.S.set k y)[i]? = some z:=hz
   rw [List.getElem?_set_ne e] at hz
   exact (hE.entry i z hz).tell h
theorem Ext.tell {E0:Env} {x0:ABox} (h:Ext E0 E) (ht:Told E k x y) (h0:E0.S[k]? = some x0) (_:x0.isGrow=false) (hf0:∀ o,x0 ≠ .frz o):Ext E0 (E.tell k y):=by
 refine ⟨h.base,h.im0,h.act,h.size,h.os,h.tape,h.output,?_,h.free,fun i z hz hg=>?_,fun i n sz t hi=>?_,fun i b o hS hm=>?_,fun i cs t hS hi=>?_⟩
 ·show E0.S.length≤(E.S.set k y).length
  have:=h.len
  simpa using this
 ·obtain ⟨e,hb⟩:=h.box i z hz hg
  exact ⟨e,tell_box ht hb⟩
 ·obtain ⟨n',h1,h2,h3,h4⟩:=h.grow i n sz t hi
  exact ⟨n',tell_grow ht h1,h2,h3,h4⟩
 ·have e:k≠i:=by
   rintro rfl
   rw [h0] at hS
   injection hS with hS
   exact hf0 o hS
  obtain ⟨h1,h2⟩:=h.frz i b o hS hm
  exact ⟨(List.getElem?_set_ne e).trans h1,h2⟩
 ·have hS:(E.S.set k y)[i]? = some (.row cs t):=hS
  have e:k≠i:=by
   rintro rfl
   rw [List.getElem?_set_self (List.getElem?_eq_some_iff.1 ht.was).1] at hS
   have:=ht.yr
   rw [Option.some.inj hS] at this
   cases this
  exact h.row i cs t ((List.getElem?_set_ne e).symm.trans hS) hi
theorem RF.tell (h:Told E k x y) {N:Nat} {f:Nat→AVal} {a:Act} (hr:RF E N f a):RF (E.tell k y) N f a:=⟨hr.size,hr.df,fun t=>(hr.slot t).tell h⟩
end
theorem nxt_then {C:Cx} {N:Nat} {id:Nat} {ops:Array Oper} {d:Option Nat} {it:Operand} {rest:List Oper} {fr:Fr} {S:St} (h1:nextOf false ops.toList=some (d,it,rest))
  (hdn:∀ k,d=some k→k<N) {K:AVal→St→Prop} (h:aNext (aEval C fr.get it) S K) {F:Fence} {n:Nat} (hF:FW F) {E:Env} {a:Act} (hE:Wf C.G E) (hS:E.S=S) (hr:RF E N fr.get a) {Q:Exit→Act→World→Prop}
  (hq:∀ E1 a1 v,Ext E E1→Wf C.G E1→K v E1.S→RF E1 N (upd fr.get d v) a1→∀ is,(is.map fun i=>ops[i]?)=rest.map some→wpOpsIn F n C.P ops Q is a1 E1.w):(Code.region id ops false).wpIn F n C.P Q a E.w:=by
 obtain ⟨_,o,hl,ho,hg,hd⟩:=nextOf_some h1
 obtain ⟨is,e1,e2,e3⟩:=range_tail ops o rest hl
 refine wpIn_region ?_
 rw [e1]
 simp only [wpOpsIn,e2]
 rw [if_pos (by simp [Region.wanted,hg])]
 refine ⟨fun f _=>hF.fn f,?_⟩
 rw [Oper.semAt_eq _ _ _ (by rw [ho];intro c h;cases h)]
 subst hS
 obtain ⟨v',y,E',r1,r2,r3,r4,r5⟩:=next_ok (P:=C.P) hE (R.eval hE hr it) h o.type
 have hrun:(execOp a.eval o).run C.P E.w = .ok (.value y) E'.w:=by
  simp only [execOp,ho,Sem.run_bind,r1,Result.andThen_ok,Sem.run_pure]
 rw [hrun,Oper.uponIn_value,hd]
 exact hq E' _ v' r2 r3 r5 ((hr.ext hE r2).put hdn r4) is e3
theorem entry_then {C:Cx} {N:Nat} {id:Nat} {ops:Array Oper} {p:Oper} {it:Operand} {rest:List Oper} {g:Nat→AVal} (hl:ops.toList=p::rest) (hp:p.op = .entry it) (hg:p.guard=none)
  (hdn:∀ k,p.dst=some k→k<N) {F:Fence} {n:Nat} (hF:FW F) {E:Env} {a:Act} (hE:Wf C.G E) (hr:RF E N g a) {out:Out} (h:aEntry E.S (aEval C g it)=some out) (hs:out.sd) {Q:Exit→Act→World→Prop}
  (hq:∀ E1 a1,Ext E E1→Wf C.G E1→E1.S=out.S→RF E1 N (upd g p.dst out.r) a1→∀ is,(is.map fun i=>ops[i]?)=rest.map some→wpOpsIn F n C.P ops Q is a1 E1.w):(Code.region id ops false).wpIn F n C.P Q a E.w:=by
 obtain ⟨is,e1,e2,e3⟩:=range_tail ops p rest hl
 refine wpIn_region ?_
 rw [e1]
 simp only [wpOpsIn,e2]
 rw [if_pos (by simp [Region.wanted,hg])]
 refine ⟨fun f _=>hF.fn f,?_⟩
 rw [Oper.semAt_eq _ _ _ (by rw [hp];intro c h;cases h)]
 obtain ⟨E',y,r1,r2,r3,r4,r5⟩:=entry_run_ok (P:=C.P) hE (R.eval hE hr it) h hs
 have hrun:(execOp a.eval p).run C.P E.w = .ok (.value y) E'.w:=by
  simp only [execOp,hp,Sem.run_bind,r1,Result.andThen_ok,Sem.run_pure]
 rw [hrun,Oper.uponIn_value]
 exact hq E' _ r2 r3 r4 ((hr.ext hE r2).put hdn r5) is e3
theorem filter_le {α:Type} {p q:α→Bool}:∀ {l:List α},(∀ a∈l,q a=true→p a=true)→(l.filter q).length≤(l.filter p).length
 |[],_=>Nat.le_refl _
 |a::l,h=>by
  have ih:=filter_le (p:=p) (q:=q) (l:=l) fun b hb=>h b (List.mem_cons_of_mem _ hb)
  have ha:=h a (List.mem_cons_self ..)
  cases hq:q a<;>cases hp:p a<;>simp [hq,hp]<;>first|omega|(rw [hp] at ha;exact absurd (ha hq) (by simp))
theorem filter_lt {α:Type} {p q:α→Bool}:∀ {l:List α} {a:α},(∀ a∈l,q a=true→p a=true)→a∈l→p a=true→q a=false→(l.filter q).length<(l.filter p).length
 |b::l,a,h,hm,hp,hq=>by
  have hle:=filter_le (p:=p) (q:=q) (l:=l) fun b hb=>h b (List.mem_cons_of_mem _ hb)
  rcases List.mem_cons.1 hm with rfl|hm
  ·simp [hp,hq];omega
  ·have ih:=filter_lt (p:=p) (q:=q) (fun b hb=>h b (List.mem_cons_of_mem _ hb)) hm hp hq
   have hb:=h b (List.mem_cons_self ..)
   cases hqb:q b<;>cases hpb:p b<;>simp [hqb,hpb]<;>first|omega|(rw [hpb] at hb;exact absurd (hb hqb) (by simp))
theorem MX.ne {ps:List (AVal × AVal)} {es:Ents} {c:Nat} (h:MX ps es c) {i j:Nat} (hi:i<es.length) (hj:j<es.length) (hij:i<j):es[i].2.2≠es[j].2.2:=by
 have hnd:=h.nodup
 rw [List.nodup_iff_pairwise_ne,List.pairwise_map,List.pairwise_iff_getElem] at hnd
 exact hnd i j hi hj hij
theorem belM_of {n:Nat}:∀ {es:Ents},(∀ e∈es,bel n e.1=true∧bel n e.2.1=true)→belM n es=true
 |[],_=>rfl
 |(k,v,_)::es,h=>by
  have h1:=h _ (List.mem_cons_self ..)
  simp only [belM,Bool.and_eq_true]
  exact ⟨h1,belM_of fun e he=>h e (List.mem_cons_of_mem _ he)⟩
theorem MX.bel {n:Nat} {ps:List (AVal × AVal)} {es:Ents} {c:Nat} (h:MX ps es c) (hb:belP n ps=true):belM n es=true :=
 belM_of fun e he=>belP_get hb (e.1,e.2.1) (h.perm.mem_iff.1 (List.mem_map.2 ⟨e,he,rfl⟩))
structure Froze (G:Nat→Option AVal) (k mi:Nat) (it:ABox) (ps:List (AVal × AVal)) (es:Ents) (c:Nat) (E:Env):Prop where
 wf:Wf G E
 atk:E.S[k]? = some (.frz none)
 atm:E.S[mi]? = some (.frz (some ps))
 mp:mpOk E mi es c
 itk:∃ b:Nat,E.mu[k]? = some (some b)∧entryOk E k it
theorem Froze.ext {G:Nat→Option AVal} {k mi c since clk:Nat} {sn:List Nat} {ps:List (AVal × AVal)} {es:Ents} {E E':Env} (h:Froze G k mi (.iter (some mi) since sn clk) ps es c E) (hx:Ext E E') (hE:Wf G E') :
  Froze G k mi (.iter (some mi) since sn clk) ps es c E':=by
 obtain ⟨b,m1,q⟩:=h.itk
 obtain ⟨f1,f2⟩:=hx.frz k b none h.atk m1
 have q2:=h.mp
 obtain ⟨b2,ms,n1,n2,n3,n4⟩:=q2
 obtain ⟨f3,f4⟩:=hx.frz mi b2 _ h.atm n1
 have mk:=(hx.box k _ h.atk rfl).1
 have mm:=(hx.box mi _ h.atm rfl).1
 refine ⟨hE,f1,f3,entryOk.keep (x:=.mp es c) h.wf hx h.mp mm fun b' hb'=>?_,b,mk.trans m1,entryOk.keep h.wf hx q mk fun b' hb'=>?_⟩
 ·rw [n1] at hb'
  injection hb' with hb'
  injection hb' with hb'
  rw [← hb'];exact f4
 ·rw [m1] at hb'
  injection hb' with hb'
  injection hb' with hb'
  rw [← hb'];exact f2
theorem Froze.cut {G:Nat→Option AVal} (hG:∀ g v,G g=some v→Closed v) {k mi c since clk n:Nat} {sn:List Nat} {ps:List (AVal × AVal)} {es:Ents} {E:Env} (h:Froze G k mi (.iter (some mi) since sn clk) ps es c E) (hx:MX ps es c) (hk:k<n) (hm:mi<n)
  (hb:belS n (E.S.take n)=true) (hp:belP n ps=true):Froze G k mi (.iter (some mi) since sn clk) ps es c (E.cut n):=by
 obtain ⟨b,m1,q⟩:=h.itk
 exact ⟨env_cut hG h.wf hb,(cut_S hk).trans h.atk,(cut_S hm).trans h.atm,entryOk.cut (x:=.mp es c) h.wf hm h.mp (hx.bel hp),b,(cut_mu hk).trans m1,entryOk.cut h.wf hk q (by
  show Nat.blt mi n=true
  exact blt_iff.2 hm)⟩
theorem Froze.thaw {G:Nat→Option AVal} {k mi c since clk:Nat} {sn:List Nat} {ps:List (AVal × AVal)} {es:Ents} {E:Env} (h:Froze G k mi (.iter (some mi) since sn clk) ps es c E) (hkm:k≠mi) (z:ABox) (hz:z.isGrow=false∧z.rd=false)
  (hze:∀ E',mpOk E' mi es c→entryOk E' mi z):Told E k (.frz none) (.iter (some mi) since sn clk)∧Told (E.tell k (.iter (some mi) since sn clk)) mi (.frz (some ps)) z∧Wf G ((E.tell k (.iter (some mi) since sn clk)).tell mi z) ∧
  mpOk ((E.tell k (.iter (some mi) since sn clk)).tell mi z) mi es c:=by
 obtain ⟨b,m1,q⟩:=h.itk
 have t1:Told E k (.frz none) (.iter (some mi) since sn clk):=⟨h.atk,rfl,rfl,rfl,rfl⟩
 have t2:Told (E.tell k (.iter (some mi) since sn clk)) mi (.frz (some ps)) z:=⟨(List.getElem?_set_ne hkm).trans h.atm,rfl,hz.1,rfl,hz.2⟩
 have w1:=h.wf.tell t1 (q.tell t1)
 have q2:=(h.mp.tell t1).tell t2
 exact ⟨t1,t2,w1.tell t2 (hze _ q2),q2⟩
theorem Froze.of {G:Nat→Option AVal} {k mi c since clk:Nat} {sn:List Nat} {ps:List (AVal × AVal)} {es:Ents} {E:Env} (hE:Wf G E) (hk:E.S[k]? = some (.iter (some mi) since sn clk)) (hm:E.S[mi]? = some (.mp es c)) (hkm:k≠mi) (hx:MX ps es c) :
  Told E k (.iter (some mi) since sn clk) (.frz none)∧Told (E.tell k (.frz none)) mi (.mp es c) (.frz (some ps))∧Froze G k mi (.iter (some mi) since sn clk) ps es c ((E.tell k (.frz none)).tell mi (.frz (some ps))):=by
 have t1:Told E k (.iter (some mi) since sn clk) (.frz none):=⟨hk,rfl,rfl,rfl,rfl⟩
 have t2:Told (E.tell k (.frz none)) mi (.mp es c) (.frz (some ps)):=⟨(List.getElem?_set_ne hkm).trans hm,rfl,rfl,rfl,rfl⟩
 have q:mpOk E mi es c:=hE.entry mi _ hm
 have q2:=(q.tell t1).tell t2
 have e:=hE.entry k _ hk
 obtain ⟨b,m1,_⟩:=e
 have w1:Wf G (E.tell k (.frz none)):=hE.tell t1 trivial
 refine ⟨t1,t2,w1.tell t2 ⟨c,es,hx,q2⟩,?_,?_,q2,b,m1,((hE.entry k _ hk).tell t1).tell t2⟩
 ·show ((E.S.set k (.frz none)).set mi _)[k]? = _
  rw [List.getElem?_set_ne hkm.symm,List.getElem?_set_self (List.getElem?_eq_some_iff.1 hk).1]
 ·show ((E.S.set k (.frz none)).set mi _)[mi]? = _
  rw [List.getElem?_set_self (by rw [List.length_set];exact (List.getElem?_eq_some_iff.1 hm).1)]
theorem RF.cut {G:Nat→Option AVal} {E:Env} {n N:Nat} {f:Nat→AVal} {a:Act} (hE:Wf G E) (hr:RF E N f a) (hb:∀ t,bel n (f t)=true):RF (E.cut n) N f a:=by
 refine ⟨hr.size,?_,fun t=>(hr.slot t).cut hE (hb t)⟩
 obtain ⟨h0,rs,h1,h2,h3⟩:=hr.df
 exact ⟨h0,rs,h1,h2,fun r hr=>⟨(h3 r hr).1,cut_free (h3 r hr).2.1,(h3 r hr).2.2⟩⟩
theorem rounds_mono {F:Fence} {n:Nat} {P:Program} {c:Code} {Q Q':Exit→Act→World→Prop} (hq:∀ e a w,Q e a w→Q' e a w):∀ (j:Nat) (a:Act) (w:World),Code.roundsIn F n P c Q j a w→Code.roundsIn F n P c Q' j a w
 |0,_,_,h=>h
 |j+1,a,w,h=>by
  rw [roundsIn_succ] at h ⊢
  refine wpIn_mono h fun e a' w' hh=>?_
  cases e with
  |normal=>exact rounds_mono hq j a' w' hh
  |_=>exact hq _ _ _ hh
def anyQ (out:Nat) (frD:Fr) (Sf:St) (Res:Option (XE × Fr × St)) (mi:Nat) (z:ABox):Post:=fun e f T=>match Res with
 |some r=>e=r.1.ex∧f=r.2.1∧T=r.2.2.set mi z
 |none=>e = .exit out∧f=frD∧T=Sf.set mi z
theorem Froze.back {G:Nat→Option AVal} {k mi c:Nat} {it:ABox} {ps:List (AVal × AVal)} {es:Ents} {E:Env} (h:Froze G k mi it ps es c E) (z:ABox) (hz:z.isGrow=false∧z.rd=false) (hze:∀ E',mpOk E' mi es c→entryOk E' mi z) :
  Told E mi (.frz (some ps)) z∧Wf G (E.tell mi z):=by
 have t:Told E mi (.frz (some ps)) z:=⟨h.atm,rfl,hz.1,rfl,hz.2⟩
 exact ⟨t,h.wf.tell t (hze _ (h.mp.tell t))⟩
def mapZ (ps:List (AVal × AVal)) (clock:Nat) (z:ABox):Prop:=z = .mpx ps clock∨∃ es,z = .mp es clock∧MX ps es clock
theorem mapZ.grow {ps:List (AVal × AVal)} {c:Nat} {z:ABox} (h:mapZ ps c z):z.isGrow=false∧∀ o,z ≠ .frz o:=by
 rcases h with rfl|⟨es,rfl,_⟩<;>exact ⟨rfl,nofun⟩
structure AnyOk (C:Cx) (N out nx:Nat) (rops aops:Array Oper) (d:Option Nat) (it it2 more:Operand) (rrest arest:List Oper) (p:Oper) (code:Code)
  (k mi since last clock:Nat) (z:ABox) (ps:List (AVal × AVal)) (fr0 frD:Fr) (S Sf:St) (cont:AVal × AVal→Bool) (Res:Option (XE × Fr × St)):Prop where
 h1:nextOf false rops.toList=some (d,it,rrest)
 hdn:∀ k,d=some k→k<N
 h2:aops.toList=p::arest
 hp:p.op = .entry it2
 hpg:p.guard=none
 hpd:∀ k,p.dst=some k→k<N
 hit:aEval C fr0.get it = .ptr k 0
 hk:S[k]? = some (.iter (some mi) since [] last)
 hm:S[mi]? = some z
 hz:mapZ ps clock z
 hsc:clock≤since
 hSf:Sf=(S.set k (.frz none)).set mi (.frz (some ps))
 hbel:belS S.length Sf=true
 hbp:belP S.length ps=true
 hbf:∀ t,bel S.length (fr0.get t)=true
 hD:ARun C rops N none rrest (upd fr0.get d (.tup [.bool false])) Sf frD.get Sf
 hDc:aEval C frD.get more = .bool false
 hres:Res=none∨∃ e∈ps,cont e=false
 hround:∀ e∈ps,∃ (fr1 fr2:Fr) (S2:St) (x:XE) (fr3:Fr) (S3:St),
  ARun C rops N none rrest (upd fr0.get d (.tup [.bool true,e.1,e.2])) Sf fr1.get Sf∧aEval C fr1.get more = .bool true∧aEval C fr1.get it2 = .ptr k 0 ∧
  ARun C aops N none arest (upd fr1.get p.dst (.tup [e.1,e.2])) Sf fr2.get S2∧AWp C N code (fun e2 f2 T2=>e2=x.ex∧f2=fr3∧T2=S3) fr2 S2 ∧
  ((cont e=true∧(x = .nrm∨x = .ext nx)∧S3.take S.length=Sf∧Sub fr3 fr0)∨(cont e=false∧x ≠ .nrm∧x ≠ .ext nx∧Res=some (x,fr3,S3)))
theorem any_rounds {C:Cx} {N rid aid out nx:Nat} {rops aops:Array Oper} {d:Option Nat} {it it2 more:Operand} {rrest arest:List Oper} {p:Oper} {sk code:Code}
  {k mi since last clock:Nat} {z:ABox} {ps:List (AVal × AVal)} {fr0 frD:Fr} {S Sf:St} {cont:AVal × AVal→Bool} {Res:Option (XE × Fr × St)} (hC:C.Ok) (hG:GClosed C)
  (H:AnyOk C N out nx rops aops d it it2 more rrest arest p code k mi since last clock z ps fr0 frD S Sf cont Res) (hsk:sk = .skip∨∃ l,sk = .label l) {es:Ents} (hx:MX ps es clock) (hze:∀ E,mpOk E mi es clock→entryOk E mi z) :
  ∀ (j:Nat) (seen:List Nat) (last':Nat),(es.filter fun e => !(seen.contains e.2.2)).length<j→(∀ x∈seen,∃ e∈es,cont (e.1,e.2.1)=true∧e.2.2=x)→(seen=[]∨last'=clock) →
  ∀ (F:Fence) (m:Nat),FW F→(F.round=none∨noRF code=true)→∀ (E:Env) (a:Act),Wf C.G E→E.S=S.set k (.iter (some mi) since seen last')→mpOk E mi es clock→RF E N fr0.get a →
  Code.roundsIn F m C.P (.seq (.region rid rops false) (.seq (.cond more sk (.exit out)) (.block nx (.seq (.region aid aops false) code))))
   (fun e2 a' w'=>∃ E' fr2,E'.w=w'∧Wf C.G E'∧Ext E E'∧RF E' N fr2.get a'∧anyQ out frD Sf Res mi z e2 fr2 E'.S) j a E.w:=by
 intro j
 induction j with
 |zero=>intro seen last' h;omega
 |succ j ih =>
  intro seen last' hj hseen hlast F m hF hro E a hE hES hq hr
  have hlt:k<S.length:=(List.getElem?_eq_some_iff.1 H.hk).1
  have hml:mi<S.length:=(List.getElem?_eq_some_iff.1 H.hm).1
  obtain ⟨hzg,hzf⟩:=H.hz.grow
  have hzr:z.rd=false:=by rcases H.hz with h|⟨_,h,_⟩<;>rw [h]<;>rfl
  have hkm:k≠mi:=by
   rintro rfl
   have h1:=H.hk
   rw [H.hm] at h1
   injection h1 with h1
   rcases H.hz with h|⟨_,h,_⟩<;>rw [h] at h1<;>cases h1
  have hEk0:E.S[k]? = some (.iter (some mi) since seen last'):=by rw [hES,List.getElem?_set_self hlt]
  have hEm0:E.S[mi]? = some z:=by rw [hES,List.getElem?_set_ne hkm];exact H.hm
  have tz:Told E mi z (.mp es clock):=⟨hEm0,hzg,rfl,hzr,rfl⟩
  have hE0:Wf C.G (E.tell mi (.mp es clock)):=hE.tell tz (hq.tell tz)
  have hES0:(E.tell mi (.mp es clock)).S=(S.set k (.iter (some mi) since seen last')).set mi (.mp es clock):=by show E.S.set mi _=_;rw [hES]
  have hEk:(E.tell mi (.mp es clock)).S[k]? = some (.iter (some mi) since seen last'):=(List.getElem?_set_ne hkm.symm).trans hEk0
  have hEm:(E.tell mi (.mp es clock)).S[mi]? = some (.mp es clock):=List.getElem?_set_self (List.getElem?_eq_some_iff.1 hEm0).1
  rw [roundsIn_succ]
  refine wpIn_seq ?_
  have hnext:aNext (aEval C fr0.get it) (E.tell mi (.mp es clock)).S (fun v T=>(v = .tup [.bool false]∧T=(E.tell mi (.mp es clock)).S∧∀ e∈es,e.2.2∈seen) ∨
    ∃ e∈es,e.2.2 ∉ seen∧v = .tup [.bool true,e.1,e.2.1]∧T=(E.tell mi (.mp es clock)).S.set k (.iter (some mi) since (seen++[e.2.2]) clock)):=by
   rw [H.hit]
   unfold aNext
   simp only [hEk,hEm]
   refine ⟨?_,fun hall=>.inl ⟨trivial,trivial,fun e he=>?_⟩,fun e he hn=>.inr ⟨e,he,hn,rfl,rfl⟩⟩
   ·rcases hlast with h|h
    ·exact .inl h
    ·cases hes:es with
     |nil=>exact .inr (.inl rfl)
     |cons e es'=>exact .inr (.inr ⟨e,List.mem_cons_self ..,by rw [h];exact hx.lt e (by rw [hes];exact List.mem_cons_self ..)⟩)
   ·refine Classical.byContradiction fun hn=>?_
    have h1:=hall e he hn
    have h2:=hx.lt e he
    have h3:=H.hsc
    omega
  have xE0:Ext E (E.tell mi (.mp es clock)):=(Ext.refl E).tell tz hEm0 hzg hzf
  refine nxt_then (E:=E.tell mi (.mp es clock)) H.h1 H.hdn hnext hF hE0 rfl (hr.tell tz) fun E1 a1 v hx1 hE1 hK hr1 is his=>?_
  have froze:∀ (sn:List Nat) (cl:Nat) (T:St),E1.S[k]? = some (.iter (some mi) since sn cl)→E1.S=(S.set k (.iter (some mi) since sn cl)).set mi (.mp es clock) →
    ∃ Ef:Env,Ef.w=E1.w∧Ext E Ef∧Froze C.G k mi (.iter (some mi) since sn cl) ps es clock Ef∧Ef.S=Sf∧∀ f,RF E1 N f a1→RF Ef N f a1:=by
   intro sn cl _ e1 e2
   obtain ⟨t1,t2,fz⟩:=Froze.of hE1 e1 (by rw [e2];exact List.getElem?_set_self (by simpa using hml)) hkm hx
   refine ⟨(E1.tell k (.frz none)).tell mi (.frz (some ps)),rfl,((xE0.trans hE hx1).tell t1 hEk0 rfl nofun).tell t2 hEm0 hzg hzf,fz,?_,fun f h=>(h.tell t1).tell t2⟩
   show (E1.S.set k (.frz none)).set mi (.frz (some ps))=Sf
   rw [e2,H.hSf,List.set_comm _ _ hkm.symm,List.set_set,List.set_set]
  rcases hK with ⟨rfl,hT,hall⟩|⟨e,he,hn,rfl,hT⟩
  ·obtain ⟨Ef,ew,xf,fz,hSf,rf⟩:=froze seen last' [] (by rw [hT];exact hEk) (by rw [hT,hES0])
   rw [← ew]
   refine H.hD.sound hC is his F m hF Ef a1 fz.wf hSf (rf _ hr1) _ fun E2 a2 k1 k2 k3 k4=>?_
   have hc:=R.eval (C:=C) k2 k4 more
   rw [H.hDc] at hc
   refine wpIn_seq (wpIn_cond_false hc.bool_inv (wpIn_exit ?_))
   obtain ⟨tb,wb⟩:=(fz.ext k1 k2).back z ⟨hzg,hzr⟩ hze
   refine ⟨E2.tell mi z,frD,rfl,wb,(xf.trans hE k1).tell tb hEm0 hzg hzf,k4.tell tb,?_⟩
   rcases H.hres with h|⟨e0,he0,hce⟩
   ·rw [h];exact ⟨rfl,rfl,by show E2.S.set mi z=_;rw [k3]⟩
   ·obtain ⟨e,he,hpe⟩:=List.mem_map.1 (hx.perm.mem_iff.2 he0)
    obtain ⟨e',he',hc',hb'⟩:=hseen _ (hall e he)
    have:e'=e:=by
     obtain ⟨i,hi,rfl⟩:=List.mem_iff_getElem.1 he
     obtain ⟨i',hi',rfl⟩:=List.mem_iff_getElem.1 he'
     rcases Nat.lt_trichotomy i i' with h|h|h
     ·exact absurd hb'.symm (hx.ne hi hi' h)
     ·subst h;rfl
     ·exact absurd hb' (hx.ne hi' hi h)
    rw [this,hpe,hce] at hc'
    cases hc'
  ·obtain ⟨Ef,ew,xf,fz,hSf,rf⟩:=froze (seen++[e.2.2]) clock [] (by
    rw [hT,List.getElem?_set_self (List.getElem?_eq_some_iff.1 hEk).1]) (by rw [hT,hES0,List.set_comm _ _ hkm.symm,List.set_set])
   have hme:(e.1,e.2.1)∈ps:=hx.perm.mem_iff.1 (List.mem_map.2 ⟨e,he,rfl⟩)
   obtain ⟨fr1,fr2,S2,x,fr3,S3,g1,g2,g3,g4,g5,g6⟩:=H.hround _ hme
   rw [← ew]
   refine g1.sound hC is his F m hF Ef a1 fz.wf hSf (rf _ hr1) _ fun E2 a2 k1 k2 k3 k4=>?_
   have hc:=R.eval (C:=C) k2 k4 more
   rw [g2] at hc
   have fz2:=fz.ext k1 k2
   obtain ⟨t1,t2,w2,q2⟩:=fz2.thaw hkm (.mp es clock) ⟨rfl,rfl⟩ fun _ h=>h
   have x2:Ext E ((E2.tell k (.iter (some mi) since (seen++[e.2.2]) clock)).tell mi (.mp es clock)):=((xf.trans hE k1).tell t1 hEk0 rfl nofun).tell t2 hEm0 hzg hzf
   have hS2k:((E2.tell k (.iter (some mi) since (seen++[e.2.2]) clock)).tell mi (.mp es clock)).S[k]? = some (.iter (some mi) since (seen++[e.2.2]) clock):=by
    show ((E2.S.set k _).set mi _)[k]? = _
    rw [List.getElem?_set_ne hkm.symm,List.getElem?_set_self (List.getElem?_eq_some_iff.1 fz2.atk).1]
   have hS2m:((E2.tell k (.iter (some mi) since (seen++[e.2.2]) clock)).tell mi (.mp es clock)).S[mi]? = some (.mp es clock):=by
    show ((E2.S.set k _).set mi _)[mi]? = _
    rw [List.getElem?_set_self (by rw [List.length_set];exact (List.getElem?_eq_some_iff.1 fz2.atm).1)]
   have hfe:es.find? (fun e'=>e'.2.2==e.2.2)=some e:=by
    obtain ⟨i,hi,rfl⟩:=List.mem_iff_getElem.1 he
    rw [List.find?_eq_some_iff_getElem]
    refine ⟨by simp,i,hi,rfl,fun i' hi'=>?_⟩
    simpa using hx.ne (by omega) hi hi'
   have hent:aEntry ((E2.tell k (.iter (some mi) since (seen++[e.2.2]) clock)).tell mi (.mp es clock)).S (aEval C fr1.get it2)=some ⟨clock=clock,.tup [e.1,e.2.1],((E2.tell k (.iter (some mi) since (seen++[e.2.2]) clock)).tell mi (.mp es clock)).S⟩:=by
    rw [g3]
    unfold aEntry
    simp only [hS2k,hS2m,List.getLast?_append,List.getLast?_singleton,Option.some_or,hfe]
   have key:(Code.block nx (.seq (.region aid aops false) code)).wpIn F m C.P (Exit.then (Code.roundsIn F m C.P (.seq (.region rid rops false) (.seq (.cond more sk (.exit out)) (.block nx (.seq (.region aid aops false) code))))
     (fun e2 a' w'=>∃ E' fr2,E'.w=w'∧Wf C.G E'∧Ext E E'∧RF E' N fr2.get a'∧anyQ out frD Sf Res mi z e2 fr2 E'.S) j)
     (fun e2 a' w'=>∃ E' fr2,E'.w=w'∧Wf C.G E'∧Ext E E'∧RF E' N fr2.get a'∧anyQ out frD Sf Res mi z e2 fr2 E'.S)) a2 E2.w:=by
    refine wpIn_block (wpIn_seq ?_)
    refine entry_then (E:=(E2.tell k (.iter (some mi) since (seen++[e.2.2]) clock)).tell mi (.mp es clock)) (g:=fr1.get) H.h2 H.hp H.hpg H.hpd hF w2 ((k4.tell t1).tell t2) hent rfl fun E3 a3 q1 q2 q3 q4 is2 his2=>?_
    have q3:E3.S=((E2.tell k (.iter (some mi) since (seen++[e.2.2]) clock)).tell mi (.mp es clock)).S:=q3
    obtain ⟨t3,t4,fz3⟩:=Froze.of q2 (by rw [q3];exact hS2k) (by rw [q3];exact hS2m) hkm hx
    have hS3:((E3.tell k (.frz none)).tell mi (.frz (some ps))).S=Sf:=by
     show (E3.S.set k (.frz none)).set mi (.frz (some ps))=Sf
     rw [q3]
     show (((E2.S.set k _).set mi _).set k (.frz none)).set mi (.frz (some ps))=Sf
     rw [k3,H.hSf,List.set_comm (i:=mi) (j:=k) _ _ hkm.symm,List.set_set,List.set_set,List.set_comm (i:=mi) (j:=k) _ _ hkm.symm,List.set_set,List.set_set]
    have x3:Ext E ((E3.tell k (.frz none)).tell mi (.frz (some ps))):=((x2.trans hE q1).tell t3 hEk0 rfl nofun).tell t4 hEm0 hzg hzf
    refine g4.sound hC is2 his2 F m hF ((E3.tell k (.frz none)).tell mi (.frz (some ps))) a3 fz3.wf hS3 ((q4.tell t3).tell t4) _ fun E4 a4 r1 r2 r3 r4=>?_
    refine wpIn_mono (g5 F m hF hro E4 a4 r2 r3 r4) ?_
    rintro e5 a5 w5 ⟨E5,f5,rfl,s2,s3,s4,rfl,rfl,s5⟩
    have x5:Ext ((E3.tell k (.frz none)).tell mi (.frz (some ps))) E5:=r1.trans fz3.wf s3
    rcases g6 with ⟨hct,hxx,hS5,hsub⟩|⟨hct,hx1,hx2,hRes⟩
    ·have go:Code.roundsIn F m C.P (.seq (.region rid rops false) (.seq (.cond more sk (.exit out)) (.block nx (.seq (.region aid aops false) code))))
       (fun e2 a' w'=>∃ E' fr2,E'.w=w'∧Wf C.G E'∧Ext E E'∧RF E' N fr2.get a'∧anyQ out frD Sf Res mi z e2 fr2 E'.S) j a5 E5.w:=by
      have hEl:E.S.length=S.length:=by rw [hES];simp
      have hSfl:Sf.length=S.length:=by rw [H.hSf];simp
      have fz6:=(fz3.ext x5 s2).cut (n:=S.length) hG hx hlt hml (by rw [s5,hS5];exact H.hbel) H.hbp
      have x6:Ext ((E3.tell k (.frz none)).tell mi (.frz (some ps))) (E5.cut S.length):=ext_cut x5 (by rw [hS3,hSfl];exact Nat.le_refl _)
      obtain ⟨t7,t8,w7,q7⟩:=fz6.thaw hkm z ⟨hzg,hzr⟩ hze
      have x7:Ext E (((E5.cut S.length).tell k (.iter (some mi) since (seen++[e.2.2]) clock)).tell mi z):=((x3.trans hE x6).tell t7 hEk0 rfl nofun).tell t8 hEm0 hzg hzf
      have r7:RF (((E5.cut S.length).tell k (.iter (some mi) since (seen++[e.2.2]) clock)).tell mi z) N fr0.get a5:=(((s4.sub hsub).cut s2 H.hbf).tell t7).tell t8
      have hS7:(((E5.cut S.length).tell k (.iter (some mi) since (seen++[e.2.2]) clock)).tell mi z).S=S.set k (.iter (some mi) since (seen++[e.2.2]) clock):=by
       show ((E5.S.take S.length).set k _).set mi z=_
       rw [s5,hS5,H.hSf,List.set_comm (i:=mi) (j:=k) _ _ hkm.symm,List.set_set,List.set_set,List.set_comm (i:=k) (j:=mi) _ _ hkm]
       congr 1
       apply List.ext_getElem?
       intro i
       by_cases e0:mi=i
       ·subst e0
        rw [List.getElem?_set_self hml,H.hm]
       ·rw [List.getElem?_set_ne e0]
      have:=ih (seen++[e.2.2]) clock ?_ ?_ (.inr rfl) F m hF hro _ a5 w7 hS7 q7 r7
      ·refine rounds_mono ?_ j a5 _ this
       rintro e8 a8 w8 ⟨E8,f8,rfl,z2,z3,z4,z5⟩
       exact ⟨E8,f8,rfl,z2,x7.trans hE z3,z4,z5⟩
      ·have:=filter_lt (l:=es) (a:=e) (p:=fun e => !(seen.contains e.2.2)) (q:=fun e' => !((seen++[e.2.2]).contains e'.2.2)) (fun e' _ h=>by
        simp only [List.contains_eq_mem,List.mem_append,List.mem_singleton,Bool.not_eq_true',decide_eq_false_iff_not] at h ⊢
        exact fun h'=>h (.inl h')) he (by simpa using hn) (by simp)
       omega
      ·intro y hy
       rcases List.mem_append.1 hy with hy|hy
       ·exact hseen y hy
       ·rw [List.mem_singleton] at hy
        exact ⟨e,he,hct,hy.symm⟩
     rcases hxx with rfl|rfl
     ·exact go
     ·simp only [XE.ex,Exit.inBlock,if_true]
      exact go
    ·have fin:(fun (e2:Exit) (a':Act) (w':World)=>∃ E' fr2,E'.w=w'∧Wf C.G E'∧Ext E E'∧RF E' N fr2.get a'∧anyQ out frD Sf Res mi z e2 fr2 E'.S) x.ex a5 E5.w :=
      ⟨E5.tell mi z,f5,rfl,((fz3.ext x5 s2).back z ⟨hzg,hzr⟩ hze).2,(x3.trans hE x5).tell ((fz3.ext x5 s2).back z ⟨hzg,hzr⟩ hze).1 hEm0 hzg hzf,s4.tell ((fz3.ext x5 s2).back z ⟨hzg,hzr⟩ hze).1,by rw [hRes];exact ⟨rfl,rfl,by show E5.S.set mi z=_;rw [s5]⟩⟩
     cases x with
     |nrm=>exact absurd rfl hx1
     |ext i =>
      have hi:i≠nx:=fun h=>hx2 (by rw [h])
      simp only [XE.ex,Exit.inBlock,if_neg hi]
      exact fin
     |ret=>exact fin
   refine wpIn_seq (wpIn_cond_true hc.bool_inv ?_)
   rcases hsk with rfl|⟨l,rfl⟩
   ·exact wpIn_skip key
   ·exact wpIn_label key
theorem any_loop {C:Cx} {N rid aid out nx:Nat} {rops aops:Array Oper} {d:Option Nat} {it it2 more:Operand} {rrest arest:List Oper} {p:Oper} {sk code:Code}
  {k mi since last clock:Nat} {z:ABox} {ps:List (AVal × AVal)} {fr0 frD:Fr} {S Sf:St} {cont:AVal × AVal→Bool} {Res:Option (XE × Fr × St)} (hC:C.Ok) (hG:GClosed C)
  (H:AnyOk C N out nx rops aops d it it2 more rrest arest p code k mi since last clock z ps fr0 frD S Sf cont Res) (hsk:sk = .skip∨∃ l,sk = .label l) :
  ∀ (F:Fence) (n:Nat),FW F→(F.round=none∨noRF code=true)→∀ (E:Env) (a:Act),Wf C.G E→E.S=S→RF E N fr0.get a →
  Code.roundsIn F n C.P (.seq (.region rid rops false) (.seq (.cond more sk (.exit out)) (.block nx (.seq (.region aid aops false) code))))
   (fun e2 a' w'=>∃ E' fr2,E'.w=w'∧Wf C.G E'∧Ext E E'∧RF E' N fr2.get a'∧anyQ out frD Sf Res mi z e2 fr2 E'.S) (ps.length+1) a E.w:=by
 intro F n hF hro' E a hE hS hr
 have hEk:E.S=S.set k (.iter (some mi) since [] last):=by
  rw [hS]
  apply List.ext_getElem?
  intro i
  by_cases e0:k=i
  ·subst e0
   rw [List.getElem?_set_self (List.getElem?_eq_some_iff.1 H.hk).1,H.hk]
  ·rw [List.getElem?_set_ne e0]
 obtain ⟨es,hx,hq,hze⟩ : ∃ es,MX ps es clock∧mpOk E mi es clock∧∀ E,mpOk E mi es clock→entryOk E mi z:=by
  have hent:=hE.entry mi z (by rw [hS];exact H.hm)
  rcases H.hz with h|⟨es,h,hx⟩
  ·subst h
   obtain ⟨es,hx,hq⟩:=hent
   exact ⟨es,hx,hq,fun _ h=>⟨es,hx,h⟩⟩
  ·subst h
   exact ⟨es,hx,hent,fun _ h=>h⟩
 have hlen:es.length=ps.length:=by simpa using hx.perm.length_eq
 exact any_rounds hC hG H hsk hx hze _ [] last (by have:=List.length_filter_le (fun e => !(([]:List Nat).contains e.2.2)) es;omega) (fun x h=>by cases h) (.inl rfl) F n hF hro' E a hE hEk hq hr
end
end Go.Am
