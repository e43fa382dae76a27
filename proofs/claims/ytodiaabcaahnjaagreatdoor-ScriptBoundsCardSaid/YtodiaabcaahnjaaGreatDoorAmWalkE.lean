/- Walk rules: a range over a function, its rounds, the call of the loop's body. -/
import Derived.Test.YtodiaabcaahnjaaGreatDoorAmFreshZ
import Derived.Test.YtodiaabcaahnjaaGreatDoorAmYield
import Derived.Test.YtodiaabcaahnjaaGreatDoorAmFreshG
import Derived.Test.YtodiaabcaahnjaaGreatDoorS17
set_option linter.unusedVariables false
set_option linter.unusedSimpArgs false
section
namespace Go.Am
open Go
section
variable {C:Cx} {N:Nat}
theorem aL_yield {p:FuncId→Bool} {q:Nat→Option UL} {d:Option Nat} {gd:Option (Option Nat × Bool)} {x:Operand} {xs:Array Operand} {ts:Array TypeId} {rest:List LO} {Q:Fr→St→Prop} {fr:Fr} {S S':St} {i:Nat} {args cargs:List AVal} {r:AVal} {fr':Fr}
  (hc:AYield C i cargs S r S') (hg:wantL gd fr=some true) (hx:aEval (C.wp p q) fr.get x = .yld i) (ha:xs.toList.map (aEval (C.wp p q) fr.get)=args) (he:cargs=args) (hf:fr.put d r=fr') (k:aL (C.wp p q) none rest Q fr' S') :
  aL (C.wp p q) none (⟨d,.call ⟨.value x,xs,ts⟩,gd⟩::rest) Q fr S:=by
 subst hf ha he
 simp only [aL,hg,if_true,aOpK,hx]
 exact .inr (.inr ⟨r,S',hc,True.intro,k⟩)
theorem aC_rangeFnB {p:FuncId→Bool} {q:Nat→Option UL} {f:Operand} {ps:Array Nat} {asg body:Code} {Q:Post} {fr:Fr} {S:St} {g:FuncId} {az bs args:List AVal} {tag:Nat} {r:AVal} {S2:St} {fr':Fr} {N':Nat} {ps':List Nat} {asg' body':Code} {st:LoopState} {pend:Option Code} {tag':Nat}
  (hf:aEval (C.wp p q) fr.get f = .fn (.func g) az bs) (ha:az++[.yld S.length]++bs=args) (hc:ACall C g args (S++[.loop fr N ps.toList asg body .ready none tag]) r S2)
  (h2:S2[S.length]? = some (.loop fr' N' ps' asg' body' st pend tag')) (hst:st ≠ .busy) (hq:pendQ Q pend fr (S2.set S.length (.loop fr' N' ps' asg' body' .exhausted pend tag'))):aC (C.wp p q) N (.rangeFn f ps asg body) Q fr S:=by
 unfold aC
 simp only [hf]
 exact ⟨tag,r,S2,fr',N',ps',asg',body',st,pend,tag',by rw [ha];exact ⟨hc.callable,hc.ok⟩,h2,hst,hq⟩
theorem ayield_hand (hC:C.Ok) {fr:Fr} {ps:List Nat} {asg body:Code} {pend:Option Code} {tag i:Nat} {args:List AVal} {S S':St} {r:AVal} {p:FuncId→Bool} {q:Nat→Option UL} {la lb:LC}
  (hS:S[i]? = some (.loop fr N ps asg body .ready pend tag)) (hl:ps.length=args.length) (hps:(ps.all fun k=>Nat.blt k N)=true) (hna:noRF asg=true) (hnb:noRF body=true)
  (hca:codeOk (C.wp p q) N asg=true) (hcb:codeOk (C.wp p q) N body=true) (hla:lite asg=la) (hlb:lite body=lb)
  (h:aC (C.wp p q) N la (fun e fr1 T1=>e = .normal∧T1=S ∧
   aC (C.wp p q) N lb (fun e _ T2=>T2[i]? = some (.loop fr N ps asg body .busy pend tag)∧roundEnd fr N ps asg body tag i T2 e=some (r,S')) fr1 (S.set i (.loop fr N ps asg body .busy pend tag))) (putAll fr ps args) S):AYield C i args S r S':=by
 have hC':(C.wp p q).Ok:=hC.wp p q
 refine ayield_ok hS hl (fun k hk=>blt_iff.1 (List.all_eq_true.1 hps k hk)) hna hnb (p:=p) (q:=q) ((aC_sound hC' asg _ _ _ hca (by rw [hla];exact h)).mono ?_)
 rintro e fr1 T1 ⟨rfl,rfl,h1⟩
 refine ⟨rfl,_,_,_,_,_,_,_,hS,(aC_sound hC' body _ _ _ hcb (by rw [hlb];exact h1)).mono ?_⟩
 rintro e fr2 T2 ⟨h2,h3⟩
 exact ⟨_,_,_,_,_,_,_,_,h2,h3⟩
end
end Go.Am
end
section
namespace Go.Am
open Go
noncomputable section
theorem ACall.freshGr {C:Cx} (hG:GClosed C) {f:FuncId} {args:List AVal} {i:Nat} {T:St} {xs:List AVal} {t:TypeId} {sz:Nat} (h:ACall C f args [] (.sl sz false xs (.grow i)) T) (hT:T[i]? = some (.grow xs.length sz t))
  (hp:∀ x∈xs,∀ c∈x.cells,Plain c) (ha:bels 0 args=true) (S:St):ACall C f args S (.sl sz false xs (.grow S.length)) (S++[.grow xs.length sz t]):=by
 refine ⟨h.callable,fun E vs hE hES hvs hrel=>?_⟩
 subst hES
 have hsee:Sees E (env0 E.w E.Im):=⟨fun b o hi=>⟨⟨hi.1,.inl ⟨hi.1,hi⟩⟩,rfl⟩⟩
 have hE0:Wf C.G (env0 E.w E.Im) :=
  ⟨rfl,fun i j b h=>by simp [env0] at h,fun i b h=>by simp [env0] at h,Nat.le_refl _,fun b o _ _ i=>by simp [env0],fun i x h=>by simp [env0] at h,
   fun g v hg=>⟨(hG g v hg).move hsee (hE.glob g v hg).r,fun i=>by simp [env0],(hE.glob g v hg).obj⟩⟩
 refine (h.ok (env0 E.w E.Im) vs hE0 (by simp [env0]) hvs fun j hj=>(clo_ok _ (bels_iff.1 ha _ (List.getElem_mem hj))).move hsee (hrel j hj)).mono ?_
 rintro _ _ ⟨E',v,h1,h2,h3,h4,h5,h6⟩
 subst h1 h2
 have hS':E'.S[i]? = some (.grow xs.length sz t):=by rw [h5];exact hT
 cases h6 with
 |sl _ _ _ ad n cp fv hn hcc hcm hf hcs hr ht =>
 obtain ⟨m,t',g1,g2,g3⟩:=ht
 rw [hS'] at g1
 injection g1 with g1
 injection g1 with e1 e2 e3
 subst e3
 rcases g3 (by omega) with ⟨_,k0⟩|⟨b,arr,m1,had,m2,m3⟩
 ·have hg:E.w.grownBy E'.w none:=h4.grown (by simp [env0]) (Nat.le_refl _)
  obtain ⟨x1,x2⟩:=env_grown hE hg
  obtain ⟨y1,y2⟩:=env_ghost x2 xs.length sz t
  have hx:=x1.trans hE y1
  have hIm:∀ b o,E'.Im b o→({ E with w:=E'.w,mu:=E.mu++[none],S:=E.S++[.grow xs.length sz t] }:Env).Im b o∧E'.w.cell? ⟨b,o,none⟩=E'.w.cell? ⟨b,o,none⟩:=by
   intro b o ⟨q1,q2⟩
   have hbase:E'.base=E.w.heap.size:=h4.base
   have him0:E'.im0=E.Im:=h4.im0
   have hnew:E.w.heap.size≤b→({ E with w:=E'.w,mu:=E.mu++[none],S:=E.S++[.grow xs.length sz t] }:Env).Im b o:=fun hge=>by
    refine ⟨q1,.inr (.inl ⟨Nat.le_trans hE.base hge,fun j hj=>?_⟩)⟩
    have hj:(E.mu++[none])[j]? = some (some b):=hj
    rw [List.getElem?_append] at hj
    split at hj
    ·have:=hE.lt j b hj;omega
    ·rcases hi:j-E.mu.length with _|k
     ·rw [hi] at hj;simp at hj
     ·rw [hi] at hj;simp at hj
   refine ⟨?_,rfl⟩
   rcases q2 with ⟨k1,k2⟩|⟨k1,_⟩|⟨k1,_⟩
   ·rw [him0] at k2
    exact (Env.Im.ext hx k2 hE.im).1
   ·exact hnew (by rw [hbase] at k1;exact k1)
   ·exact hnew (by rw [hbase] at k1;exact k1)
  have hsee:Sees E' { E with w:=E'.w,mu:=E.mu++[none],S:=E.S++[.grow xs.length sz t] }:=⟨hIm⟩
  refine ⟨{ E with w:=E'.w,mu:=E.mu++[none],S:=E.S++[.grow xs.length sz t] },_,rfl,rfl,y2,hx,rfl,?_⟩
  refine .sl _ _ _ _ n cp fv hn hcc hcm (fun q hq=>hsee.holds (hf q hq)) hcs (fun k hk j hj=>?_) ⟨xs.length,t,by rw [List.getElem?_append_right (Nat.le_refl _)];simp,by omega,fun _=>.inl ⟨by rw [← hE.len];simp,by omega⟩⟩
  exact Plain.move (hr k hk j hj) (hp _ (List.getElem_mem hk) _ (List.getElem_mem hj))
 injection had with had
 subst had
 have hfree:∀ q,q<E.w.heap.size→E'.free q∧E'.w.heap[q]? = E.w.heap[q]?:=fun q hq=>(h4.free q hq (fun j hj=>by simp [env0] at hj)).imp_right fun k=>k.old hq
 have hbge:E.w.heap.size≤b:=by
  rcases Nat.lt_or_ge b E.w.heap.size with hlt|hge
  ·exact absurd m1 ((hfree b hlt).1 i)
  ·exact hge
 have hblt:=h3.lt i b m1
 have hmu:∀ j:Nat,j<E.S.length→(E.mu++[some b])[j]? = E.mu[j]?:=fun j hj=>List.getElem?_append_left (by rw [hE.len];exact hj)
 have hSS:∀ j:Nat,j<E.S.length→(E.S++[ABox.grow xs.length sz t])[j]? = E.S[j]?:=fun j hj=>List.getElem?_append_left hj
 have lt_of:∀ (j:Nat) (y:ABox),E.S[j]? = some y→j<E.S.length:=fun j y h=>by
  rcases Nat.lt_or_ge j E.S.length with hlt|hge
  ·exact hlt
  ·rw [List.getElem?_eq_none hge] at h;cases h
 have hmem:∀ (j q:Nat),(E.mu++[some b])[j]? = some (some q)→(j<E.S.length∧E.mu[j]? = some (some q))∨(j=E.S.length∧q=b):=by
  intro j q h
  rw [List.getElem?_append] at h
  split at h
  ·exact .inl ⟨by rw [← hE.len];assumption,h⟩
  ·rcases hi:j-E.mu.length with _|k
   ·rw [hi] at h
    refine .inr ⟨by rw [← hE.len];omega,?_⟩
    simp at h;exact h.symm
   ·rw [hi] at h;simp at h
 have hsz:E.w.heap.size≤E'.w.heap.size:=h4.size
 have hfr:∀ q,q<E.w.heap.size→E.free q→∀ j:Nat,(E.mu++[some b])[j]? ≠ some (some q):=by
  intro q hq hf j hj
  rcases hmem j q hj with ⟨_,k2⟩|⟨_,k2⟩
  ·exact hf j k2
  ·omega
 have hxt:Ext E { E' with mu:=E.mu++[some b],S:=E.S++[.grow xs.length sz t],base:=E.base,im0:=E.im0,act:=E.act }:=by
  refine ⟨rfl,rfl,rfl,hsz,h4.os,h4.tape,h4.output,by simp,fun q hq hf=>⟨hfr q hq hf,.inl (hfree q hq).2⟩,fun j y h hy=>⟨hmu j (lt_of j y h),y,(hSS j (lt_of j y h)).trans h,hy⟩,
   fun j n sz t h=>⟨n,(hSS j (lt_of j _ h)).trans h,Nat.le_refl _,fun _=>⟨hmu j (lt_of j _ h),fun q hq=>(hfree q (hE.lt j q hq)).2⟩,
    fun q hq=>⟨fun o _=>cell_same (hfree q (hE.lt j q hq)).2 _ _,.inl ((hmu j (lt_of j _ h)).trans hq)⟩⟩,fun j q o h hq=>⟨(hSS j (lt_of j _ h)).trans h,(hfree q (hE.lt j q hq)).2⟩⟩
 have hmb:(E.mu++[some b])[E.S.length]? = some (some b):=by rw [← hE.len];simp
 refine ⟨{ E' with mu:=E.mu++[some b],S:=E.S++[.grow xs.length sz t],base:=E.base,im0:=E.im0,act:=E.act },_,rfl,rfl,⟨by simp [hE.len],fun j j' q k1 k2=>?_,fun j q k=>?_,Nat.le_trans hE.base hsz,fun q o k1 k2=>?_,fun j y k=>?_,fun g u k=>(hE.glob g u k).ext hE hxt⟩,hxt,rfl,?_⟩
 ·rcases hmem j q k1 with ⟨_,m1⟩|⟨e1,c1⟩<;>rcases hmem j' q k2 with ⟨_,m2⟩|⟨e2,c2⟩
  ·exact hE.inj j j' q m1 m2
  ·have:=hE.lt j q m1;omega
  ·have:=hE.lt j' q m2;omega
  ·omega
 ·rcases hmem j q k with ⟨_,m1⟩|⟨_,c1⟩
  ·exact Nat.lt_of_lt_of_le (hE.lt j q m1) hsz
  ·rw [c1];exact hblt
 ·have k1:q<E.base:=k1
  have k2:E.im0 q o:=k2
  exact hfr q (Nat.lt_of_lt_of_le k1 hE.base) (hE.im q o k1 k2)
 ·have k':(E.S++[ABox.grow xs.length sz t])[j]? = some y:=k
  rw [List.getElem?_append] at k'
  split at k'
  ·next hl=>exact (hE.entry j y k').keep hE hxt (hmu j hl) fun q hq=>(hfree q (hE.lt j q hq)).2
  ·next hl =>
   rcases hi:j-E.S.length with _|k
   ·rw [hi] at k'
    simp at k'
    subst k'
    have:j=E.S.length:=by omega
    subst this
    exact .inr ⟨b,arr,hmb,Nat.le_trans hE.base hbge,m2,by rw [m3];exact Nat.mul_le_mul_right _ (by omega)⟩
   ·rw [hi] at k';simp at k'
 ·refine .sl _ _ _ _ n cp fv hn hcc hcm (fun q hq=>?_) hcs (fun k hk j hj=>?_) ⟨xs.length,t,by rw [List.getElem?_append_right (Nat.le_refl _)];simp,by omega,fun _=>.inr ⟨b,arr,hmb,rfl,m2,m3⟩⟩
  ·obtain ⟨f1,f2,_,f4⟩:=hf q hq
   refine ⟨f1,f2,⟨hblt,.inr (.inr ⟨Nat.le_trans hE.base hbge,E.S.length,xs.length,sz,t,hmb,?_,by rw [← hn];simpa using hq⟩)⟩,f4⟩
   show (E.S++[ABox.grow xs.length sz t])[E.S.length]? = _
   rw [List.getElem?_append_right (Nat.le_refl _)];simp
  ·exact Plain.move (hr k hk j hj) (hp _ (List.getElem_mem hk) _ (List.getElem_mem hj))
end
end Go.Am
end
section
namespace Go.Am
open Go Go.Proofs
set_option maxHeartbeats 8000000
set_option maxRecDepth 100000
section
attribute [local irreducible] aC aL thenQ blockQ scopeQ ALoop AWp
theorem at0 {α:Type} {l r:List α} {x:α} {n:Nat} (h:l.length=n):(l++x::r)[n]? = some x:=by subst h;simp
theorem at1 {α:Type} {l r:List α} {x y:α} {n:Nat} (h:l.length+1=n):(l++x::y::r)[n]? = some y:=by subst h;rw [List.getElem?_append_right (by omega)];simp
theorem set0 {α:Type} {l r:List α} {x z:α} {n:Nat} (h:l.length=n):(l++x::r).set n z=l++z::r:=by subst h;simp
theorem set1 {α:Type} {l r:List α} {x y z:α} {n:Nat} (h:l.length+1=n):(l++x::y::r).set n z=l++x::z::r:=by subst h;rw [List.set_append_right _ _ (by omega)];simp
attribute [go_sem] at0 at1 set0 set1
def GRAN:List UInt8:=[103,114,97,110,117,108,101,115]
def MASTER:List UInt8:=[109,97,115,116,101,114]
def DRAW:List UInt8:=[100,114,97,119]
def ENTR:List UInt8:=[101,110,116,114,111,112,121]
def entT (n:Nat):List UInt8:=numT ENTR [n]
def linesA (s:Su) (j k:Nat):List (List UInt8):=numT GRAN [s.g.toNat]::modeT s.i::digT MASTER s.m::((s.d.take j).map (digT DRAW)++(s.e.take k).map entT)
def linesL (s:Su):List (List UInt8):=linesA s s.d.length s.e.length
theorem linesA_len (s:Su) (j k:Nat) (hj:j≤s.d.length) (hk:k≤s.e.length):(linesA s j k).length=3+j+k:=by simp [linesA,Nat.min_eq_left hj,Nat.min_eq_left hk];omega
theorem linesA_d (s:Su) (j:Nat) (h:j<s.d.length):linesA s (j+1) 0=linesA s j 0++[digT DRAW s.d[j]]:=by
 unfold linesA
 rw [List.take_succ_eq_append_getElem h]
 simp only [List.map_append,List.take_zero,List.map_nil,List.append_nil,List.map_cons,List.cons_append]
theorem linesA_e (s:Su) (j k:Nat) (h:k<s.e.length):linesA s j (k+1)=linesA s j k++[entT s.e[k]]:=by
 unfold linesA
 rw [List.take_succ_eq_append_getElem h]
 simp only [List.map_append,List.map_nil,List.map_cons,List.cons_append,List.append_assoc]
theorem bels_dgs (n:Nat) (d:List (List UInt8)):bels n (dgs d)=true:=bels_iff.2 fun x hx=>by
 obtain ⟨b,_,rfl⟩:=List.mem_map.1 hx
 exact bels_iff.2 fun y hy=>by obtain ⟨c,_,rfl⟩:=List.mem_map.1 hy;rfl
theorem bels_bytes' (n:Nat) (l:List UInt8):bels n (bl l)=true:=bels_iff.2 fun x hx=>by obtain ⟨b,_,rfl⟩:=List.mem_map.1 hx;rfl
theorem bels_append' (n:Nat) (a b:List AVal):bels n (a++b)=(bels n a&&bels n b):=by
 rw [Bool.eq_iff_iff,Bool.and_eq_true,bels_iff,bels_iff,bels_iff]
 simp only [List.mem_append,or_imp,forall_and]
theorem bels_suC (n:Nat) (s:Su) (nd ne:Bool):bels n (suC s nd ne)=true:=by
 simp [suC,bels,bel,bels_append',bels_bytes',bels_dgs,bels_wl,belT]
theorem script_Lines (s:Su) (nd ne:Bool):APure cx 25 [.agg (suC s nd ne)] (.fn (.func 60) [] [.cptr (suC s nd ne)]):=by
 have hc:∀ x∈suC s nd ne,Closed x:=fun x hx=>clos_ok _ (bels_suC 0 s nd ne) x hx
 have h1:AVal.okc (.agg (suC s nd ne)):=by
  intro x hx
  simp only [AVal.cells,suC,List.mem_cons,List.mem_append,List.not_mem_nil,or_false] at hx
  rcases hx with rfl|rfl|hx|rfl|rfl
  ·rfl
  ·rfl
  ·exact (one_bl _).2 trivial x hx
  ·rfl
  ·rfl
 have h1':(∀ x∈suC s nd ne,x.one=true)↔True:=⟨fun _=>trivial,fun _=>h1⟩
 generalize suC s nd ne=cs at *
 refine pure_fnK cxOk Tryz.func25 (fun _=>false) (fe25.q) (by kernel_rfl) (by dsimp only [Tryz.f25,go_sem,seval,liteO,Option.map,List.map];exact .mk _) ?_
 dsimp only [Tryz.f25,frame0,List.zipIdx,List.map,Nat.reduceAdd]
 try simp only [List.getElem?_toArray,List.getElem?_cons_succ,List.getElem?_cons_zero,Option.bind_some]
 repeat' (first|(apply aL_boxI;(case hg=>(simp (disch:=first|omega|(simp only [go_sem];omega)) only [go_sem,seval,h1']));(case h=>(simp (disch:=first|omega|(simp only [go_sem];omega)) only [go_sem,seval,h1']<;>with_reducible rfl));(case hf=>(simp only [go_sem]<;>with_reducible rfl));(case hs=>(simp (disch:=first|omega|(simp only [go_sem];omega)) only [go_sem,seval,h1'])))|refine aC_seq ?_|refine aC_reg rfl ?_|refine aC_ret ?_|refine thenQ_normal ?_|refine aL_nil ?_|(apply aL_step;(·exact True.intro);(iterate 2 (·simp (disch:=first|omega|(simp only [go_sem];omega)) only [go_sem,seval,h1']<;>with_reducible rfl));(·simp only [go_sem]<;>with_reducible rfl))|fail)
 all_goals try (first|exact True.intro|exact not_false|omega|(simp (disch:=first|omega|(simp only [go_sem];omega)) only [go_sem,seval]<;>omega))
 all_goals try (simp (disch:=first|omega|(simp only [go_sem];omega)) only [go_sem,seval])
 all_goals try simp
 all_goals try exact hc
 all_goals try exact h1
theorem script_Lines1 (s:Su) (hs:s.Ok) (hm:MaySu s) (nd ne:Bool) (i n:Nat) (hi:i<n) (T:Nat→St) (T':St) (m:Nat) (hn0:(T 0).length=n) (hb0:belS (n+1) (T 0)=true) (hn':T'.length=n) (hb':belS n T'=true) (hmq:m≤(linesL s).length)
  (hy:∀ k,k<m→AYield cx i [.str ((linesL s).getD k [])] (T k++[.grow (linesL s).length 1 9]) (.bool true) (T (k+1)++[.grow (linesL s).length 1 9]))
  (he:(m=(linesL s).length∧T'=T m)∨(m<(linesL s).length∧AYield cx i [.str ((linesL s).getD m [])] (T m++[.grow (linesL s).length 1 9]) (.bool false) (T'++[.grow (linesL s).length 1 9]))) :
  ACall cx 60 [.yld i,.cptr (suC s nd ne)] (T 0) (.tup []) T':=by
 have hmay:=script_MaySetup s hs.m32 nd ne
 rw [decide_eq_true hm] at hmay
 obtain ⟨⟨hg1,hg2⟩,hd,hee⟩:=hm
 obtain ⟨g,hg⟩ : ∃ g:Nat,s.g=(g:Int):=⟨s.g.toNat,by omega⟩
 have hN:=script_numbers GRAN false [g] (by simp) (by simp [GRAN]) (by simp;omega)
 have hM:=script_mode s.i
 have hD:=script_digest MASTER s.m (by simp [MASTER]) hs.m32
 have hDs:∀ x∈s.d,APure cx 63 [.str [100,114,97,119],.agg (bl x)] (.str (digT DRAW x)):=fun x hx=>script_digest DRAW x (by simp [DRAW]) (hs.d32 x hx)
 have hEs:∀ x∈s.e,APure cx 61 [.str [101,110,116,114,111,112,121],.sl 1 false [.int .u64 (x:Nat)] .any] (.str (entT x)):=fun x hx=>script_numbers ENTR false [x] (by simp) (by simp [ENTR]) (by simpa using hs.ew x hx)
 have hm32:=hs.m32
 have h32:=hs.d32
 have hA0:linesA s 0 0=[numT GRAN [g],modeT s.i,digT MASTER s.m]:=by simp [linesA,hg]
 have hAd:=linesA_d s
 have hAe:=linesA_e s s.d.length
 have hAl:=linesA_len s
 have hlL:(linesL s).length=3+s.d.length+s.e.length:=by unfold linesL;exact linesA_len s _ _ (Nat.le_refl _) (Nat.le_refl _)
 have hLA:linesA s s.d.length s.e.length=linesL s:=rfl
 have hbs:=bels_suC n s nd ne
 have key:ACall cx 60 [.yld i,.cptr (suC s nd ne)] (T 0) (.tup []) (T'++[.grow (linesL s).length 1 9]):=by
  generalize linesA s=A at *
  generalize hL:linesL s=L at *
  clear hL hbs
  generalize numT GRAN [g]=X1 at *
  generalize digT MASTER s.m=X3 at *
  generalize modeT s.i=X2 at *
  clear hs
  obtain ⟨g',b,mm,d,e⟩:=s
  simp only at *
  subst hg
  simp only [wl,List.map_cons,List.map_nil] at hN
  unfold GRAN at hN
  unfold MASTER at hD
  unfold suC at hmay ⊢
  simp only at hmay ⊢
  obtain ⟨T0,hT0⟩ : ∃ T0,T0=T 0:=⟨_,rfl⟩
  rw [← hT0] at hn0 hb0 ⊢
  refine acall_fnK cxOk Tryz.func60 (fun _=>false) (fe60.q) (by kernel_rfl) (by dsimp only [Tryz.f60,go_sem,seval,liteO,Option.map,List.map];exact .mk _) ?_
  dsimp only [Tryz.f60,frame0,List.zipIdx,List.map,Nat.reduceAdd]
  try simp only [List.getElem?_toArray,List.getElem?_cons_succ,List.getElem?_cons_zero,Option.bind_some]
  repeat' (first|refine aC_seq ?_|refine aC_reg rfl ?_|refine aC_skip ?_|refine thenQ_normal ?_|refine aL_nil ?_|(apply aL_step;(·exact True.intro);(iterate 2 (·simp (disch:=first|omega|(simp only [go_sem];omega)) only [go_sem,seval]<;>with_reducible rfl));(·simp only [go_sem]<;>with_reducible rfl))|(refine aC_condF ?_ ?_;(·simp (disch:=first|omega|(simp only [go_sem];omega)) only [go_sem,seval]))|(apply aL_pK cxG (hmay);(iterate 2 (·simp (disch:=first|omega|(simp only [go_sem];omega)) only [go_sem,seval]<;>with_reducible rfl));(·simp only [go_sem]<;>with_reducible rfl);(·simp))|fail)
  all_goals try (first|exact True.intro|exact not_false|omega|(simp (disch:=first|omega|(simp only [go_sem];omega)) only [go_sem,seval]<;>omega))
  refine aC_regB (U:=[(some 19,some 17),(some 22,some 17),(some 22,some 20)]) rfl [] ?_
  repeat' (first|refine aLB_nil ?_|(apply aLB_step;(·exact True.intro);(·exact (by intro h;cases h));(·rfl);(·simp (disch:=first|omega|(simp only [go_sem];omega)) only [go_sem,seval]);(·simp (disch:=first|omega|(simp only [go_sem];omega)) only [go_sem,seval]<;>with_reducible rfl);(·simp only [go_sem]<;>with_reducible rfl);(·(intro b hb;first|(cases hb;done)|(simp (disch:=first|omega|(simp only [go_sem];omega)) only [loadBox,go_sem,seval] at hb;(try injection hb with hb);subst hb;simp))))|(apply aLB_pure cxG (hN);(case hg=>(simp (disch:=first|omega|(simp only [go_sem];omega)) only [go_sem,seval]));(case hx=>(simp (disch:=first|omega|(simp only [go_sem];omega)) only [go_sem,seval]<;>with_reducible rfl));(case ha=>(simp (disch:=first|omega|(simp only [go_sem];omega)) only [go_sem,seval]<;>with_reducible rfl));(case he=>(simp only [go_sem]<;>with_reducible rfl));(case hcl=>(simp));(case hf=>(simp only [go_sem]<;>with_reducible rfl)))|(apply aLB_pure cxG (hM);(case hg=>(simp (disch:=first|omega|(simp only [go_sem];omega)) only [go_sem,seval]));(case hx=>(simp (disch:=first|omega|(simp only [go_sem];omega)) only [go_sem,seval]<;>with_reducible rfl));(case ha=>(simp (disch:=first|omega|(simp only [go_sem];omega)) only [go_sem,seval]<;>with_reducible rfl));(case he=>(simp only [go_sem]<;>with_reducible rfl));(case hcl=>(simp));(case hf=>(simp only [go_sem]<;>with_reducible rfl)))|(apply aLB_pure cxG (hD);(case hg=>(simp (disch:=first|omega|(simp only [go_sem];omega)) only [go_sem,seval]));(case hx=>(simp (disch:=first|omega|(simp only [go_sem];omega)) only [go_sem,seval]<;>with_reducible rfl));(case ha=>(simp (disch:=first|omega|(simp only [go_sem];omega)) only [go_sem,seval]<;>with_reducible rfl));(case he=>(simp only [go_sem]<;>with_reducible rfl));(case hcl=>(simp));(case hf=>(simp only [go_sem]<;>with_reducible rfl)))|fail)
  repeat' (first|refine aC_seq ?_|refine aC_reg rfl ?_|refine aC_block ?_|refine aC_loop ?_|refine thenQ_normal ?_|refine aL_nil ?_|(apply aL_step;(·exact True.intro);(iterate 2 (·simp (disch:=first|omega|(simp only [go_sem];omega)) only [go_sem,seval]<;>with_reducible rfl));(·simp only [go_sem]<;>with_reducible rfl))|fail)
  ·clear hN hM hD hmay
   refine loop_ruleD (cxOk.wp _ _) (cxG.wp _ _) (σ:=Nat) (fun k=>[(28,.int .i64 k),(27,.int .i64 d.length),(26,.sl 32 nd (dgs d) .any),(3,.sl 1 false ((A k 0).map .str) (.grow n)),(1,.cptr (.int .i64 g :: .bool b::(bl mm++[.sl 32 nd (dgs d) .any,.sl 1 ne (wl e) .any]))),(0,.yld i)])
    (fun k=>T0++[.grow (3+k) 1 9]) (fun k=>d.length-k) (fun k=>k≤d.length) (n+1) 0 (GStep.full 3 9 rfl) ⟨Nat.zero_le _,Sub.of_all (by simp [Fr.get,hA0,hn0]),by simp⟩ (by omega)
    (fun k _=>⟨by simp [belS_app,hb0,belS,belB],by simp [belF,bel,bels,belT,bels_dgs,bels_str,bels_append',bels_bytes',bels_wl,Nat.blt];omega⟩) ?_
   intro k hk
   have hlk:=hAl k 0 hk (Nat.zero_le _)
   by_cases hlt:k<d.length
   ·have hgd:=getD_dgs d k .any hlt
    have hc:=hDs _ (List.getElem_mem hlt)
    have hx32:=h32 _ (List.getElem_mem hlt)
    have hs1:=hAd k hlt
    clear hDs hEs hAd hAe hA0 hAl hy he
    generalize hB:A (k+1) 0=B at *
    generalize A k 0=B0 at *
    generalize d[k]=x at *
    generalize digT DRAW x=y at *
    repeat' (first|refine aC_seq ?_|refine aC_reg rfl ?_|refine aC_block ?_|refine aC_skip ?_|refine thenQ_normal ?_|refine blockQ_normal ?_|refine aL_nil ?_|(apply aL_step;(·exact True.intro);(iterate 2 (·simp (disch:=first|omega|(simp only [go_sem];omega)) only [go_sem,seval,hgd,hn0,List.append_assoc]<;>with_reducible rfl));(·simp only [go_sem]<;>with_reducible rfl))|(refine aC_condP (by simp (disch:=first|omega|(simp only [go_sem];omega)) only [go_sem,seval,hgd,hn0,List.append_assoc]<;>with_reducible rfl) ?_ ?_<;>(intro h;first|(exfalso;omega)|skip))|(apply aL_pK cxG (hc);(iterate 2 (·simp (disch:=first|omega|(simp only [go_sem];omega)) only [go_sem,seval,hgd,hn0,List.append_assoc]<;>with_reducible rfl));(·simp only [go_sem]<;>with_reducible rfl);(·simp))|fail)
    all_goals try (first|exact True.intro|exact not_false|omega|(simp (disch:=first|omega|(simp only [go_sem];omega)) only [go_sem,seval]<;>omega))
    all_goals clear hc
    all_goals try (exact ⟨k+1,by omega,Sub.of_all (by simp [Fr.get,hB,hs1]),by rw [← hn0,take_app1 rfl];simp<;>omega,by omega⟩)
    all_goals try (simp (disch:=first|omega|(simp only [go_sem];omega)) only [go_sem,seval])
    all_goals try simp
    all_goals try omega
   ·have hk2:k=d.length:=by omega
    subst hk2
    repeat' (first|refine aC_seq ?_|refine aC_reg rfl ?_|refine aC_block ?_|refine aC_loop ?_|refine aC_exit ?_|refine thenQ_normal ?_|refine thenQ_exit ?_|refine blockQ_hit ?_|refine aL_nil ?_|(apply aL_step;(·exact True.intro);(iterate 2 (·simp (disch:=first|omega|(simp only [go_sem];omega)) only [go_sem,seval,hn0]<;>with_reducible rfl));(·simp only [go_sem]<;>with_reducible rfl))|(refine aC_condP (by simp (disch:=first|omega|(simp only [go_sem];omega)) only [go_sem,seval,hn0]<;>with_reducible rfl) ?_ ?_<;>(intro h;first|(exfalso;omega)|skip))|fail)
    ·refine loop_rule (cxOk.wp _ _) (σ:=Nat) (fun j=>[(41,.int .i64 j),(40,.int .i64 e.length),(39,.sl 1 ne (wl e) .any),(3,.sl 1 false ((A d.length j).map .str) (.grow n)),(0,.yld i)])
      (fun j=>T0++[.grow (3+d.length+j) 1 9]) (fun j=>e.length-j) (fun j=>j≤e.length) 0 (GStep.refl _ _) ⟨Nat.zero_le _,Sub.of_all (by simp [Fr.get]),by simp⟩ ?_
     intro j hj
     have hlj:=hAl d.length j (Nat.le_refl _) hj
     by_cases hlt:j<e.length
     ·have hgd:=getD_wlx e j .any hlt
      have hc:=hEs _ (List.getElem_mem hlt)
      have hs1:=hAe j hlt
      clear hDs hEs hAd hAe hA0 hAl hy he
      generalize hB:A d.length (j+1)=B at *
      generalize A d.length j=B0 at *
      generalize e[j]=x at *
      generalize entT x=y at *
      repeat' (first|refine aC_seq ?_|refine aC_reg rfl ?_|refine aC_block ?_|refine aC_skip ?_|refine thenQ_normal ?_|refine blockQ_normal ?_|refine aL_nil ?_|(apply aL_step;(·exact True.intro);(iterate 2 (·simp (disch:=first|omega|(simp only [go_sem];omega)) only [go_sem,seval,hgd,hn0]<;>with_reducible rfl));(·simp only [go_sem]<;>with_reducible rfl))|(refine aC_condP (by simp (disch:=first|omega|(simp only [go_sem];omega)) only [go_sem,seval,hgd,hn0]<;>with_reducible rfl) ?_ ?_<;>(intro h;first|(exfalso;omega)|skip))|(apply aL_pK cxG (hc);(iterate 2 (·simp (disch:=first|omega|(simp only [go_sem];omega)) only [go_sem,seval,hgd,hn0]<;>with_reducible rfl));(·simp only [go_sem]<;>with_reducible rfl);(·simp))|fail)
      all_goals try (first|exact True.intro|exact not_false|omega|(simp (disch:=first|omega|(simp only [go_sem];omega)) only [go_sem,seval]<;>omega))
      all_goals clear hc
      all_goals try (exact ⟨j+1,by omega,Sub.of_all (by simp [Fr.get,hB,hs1]),by simp [hlj];omega,by omega⟩)
      all_goals try (simp (disch:=first|omega|(simp only [go_sem];omega)) only [go_sem,seval])
      all_goals try simp
      all_goals try omega
     ·have hj2:j=e.length:=by omega
      subst hj2
      rw [hLA]
      clear hDs hEs hAd hAe hA0 hAl
      have hq:3+d.length+e.length=L.length:=by omega
      rw [hq]
      repeat' (first|refine aC_seq ?_|refine aC_reg rfl ?_|refine aC_block ?_|refine aC_loop ?_|refine aC_exit ?_|refine thenQ_normal ?_|refine thenQ_exit ?_|refine blockQ_hit ?_|refine aL_nil ?_|(apply aL_step;(·exact True.intro);(iterate 2 (·simp (disch:=first|omega|(simp only [go_sem];omega)) only [go_sem,seval,hn0]<;>with_reducible rfl));(·simp only [go_sem]<;>with_reducible rfl))|(refine aC_condP (by simp (disch:=first|omega|(simp only [go_sem];omega)) only [go_sem,seval,hn0]<;>with_reducible rfl) ?_ ?_<;>(intro h;first|(exfalso;omega)|skip))|fail)
      ·refine loop_rule (cxOk.wp _ _) (σ:=Nat) (fun k=>[(54,.int .i64 k),(53,.int .i64 L.length),(52,.sl 1 false (L.map .str) (.grow n)),(0,.yld i)])
        (fun k=>T k++[.grow L.length 1 9]) (fun k=>L.length-k) (fun k=>k≤m) 0 (GStep.refl _ _) ⟨Nat.zero_le _,Sub.of_all (by simp [Fr.get]),by simp [hT0]⟩ ?_
       intro k hk
       by_cases hkm:k<m
       ·have hgd:(L.map AVal.str).getD k .any = .str (L.getD k []):=by
         have:k<L.length:=by omega
         simp [List.getD,this]
        have hyk:=hy k hkm
        clear hy he
        generalize L.getD k []=x at *
        repeat' (first|refine aC_seq ?_|refine aC_reg rfl ?_|refine aC_block ?_|refine aC_skip ?_|refine thenQ_normal ?_|refine blockQ_normal ?_|refine aL_nil ?_|(apply aL_step;(·exact True.intro);(iterate 2 (·simp (disch:=first|omega|(simp only [go_sem];omega)) only [go_sem,seval,hgd]<;>with_reducible rfl));(·simp only [go_sem]<;>with_reducible rfl))|(refine aC_condF ?_ ?_;(·simp (disch:=first|omega|(simp only [go_sem];omega)) only [go_sem,seval,hgd]))|(refine aC_condP (by simp (disch:=first|omega|(simp only [go_sem];omega)) only [go_sem,seval,hgd]<;>with_reducible rfl) ?_ ?_<;>(intro h;first|(exfalso;omega)|skip))|(apply aL_yield (hyk);(case hg=>(simp (disch:=first|omega|(simp only [go_sem];omega)) only [go_sem,seval,hgd]));(case hx=>(simp (disch:=first|omega|(simp only [go_sem];omega)) only [go_sem,seval,hgd]<;>with_reducible rfl));(case ha=>(simp (disch:=first|omega|(simp only [go_sem];omega)) only [go_sem,seval,hgd]<;>with_reducible rfl));(case he=>(with_reducible rfl));(case hf=>(simp only [go_sem]<;>with_reducible rfl)))|fail)
        all_goals try (first|exact True.intro|exact not_false|omega|(simp (disch:=first|omega|(simp only [go_sem];omega)) only [go_sem,seval]<;>omega))
        all_goals try (exact ⟨k+1,by omega,Sub.of_all (by simp [Fr.get]),rfl,by omega⟩)
        all_goals try (simp (disch:=first|omega|(simp only [go_sem];omega)) only [go_sem,seval])
        all_goals try simp
        all_goals try omega
       ·have hkm2:k=m:=by omega
        subst hkm2
        clear hy
        rcases he with ⟨rfl,rfl⟩|⟨hlt2,he⟩
        ·repeat' (first|refine aC_seq ?_|refine aC_reg rfl ?_|refine aC_exit ?_|refine thenQ_normal ?_|refine thenQ_exit ?_|refine blockQ_hit ?_|refine aL_nil ?_|(apply aL_step;(·exact True.intro);(iterate 2 (·simp (disch:=first|omega|(simp only [go_sem];omega)) only [go_sem,seval]<;>with_reducible rfl));(·simp only [go_sem]<;>with_reducible rfl))|(refine aC_condP (by simp (disch:=first|omega|(simp only [go_sem];omega)) only [go_sem,seval]<;>with_reducible rfl) ?_ ?_<;>(intro h;first|(exfalso;omega)|skip))|fail)
         all_goals try (first|exact True.intro|exact not_false|omega|(simp (disch:=first|omega|(simp only [go_sem];omega)) only [go_sem,seval]<;>omega))
         all_goals try (simp (disch:=first|omega|(simp only [go_sem];omega)) only [go_sem,seval])
         all_goals try simp
        ·have hgd:(L.map AVal.str).getD k .any = .str (L.getD k []):=by simp [List.getD,hlt2]
         generalize L.getD k []=x at *
         repeat' (first|refine aC_seq ?_|refine aC_reg rfl ?_|refine aC_block ?_|refine aC_skip ?_|refine aC_ret ?_|refine thenQ_normal ?_|refine thenQ_ret ?_|refine blockQ_ret ?_|refine aL_nil ?_|(apply aL_step;(·exact True.intro);(iterate 2 (·simp (disch:=first|omega|(simp only [go_sem];omega)) only [go_sem,seval,hgd]<;>with_reducible rfl));(·simp only [go_sem]<;>with_reducible rfl))|(refine aC_condT ?_ ?_;(·simp (disch:=first|omega|(simp only [go_sem];omega)) only [go_sem,seval,hgd]))|(refine aC_condP (by simp (disch:=first|omega|(simp only [go_sem];omega)) only [go_sem,seval,hgd]<;>with_reducible rfl) ?_ ?_<;>(intro h;first|(exfalso;omega)|skip))|(apply aL_yield (he);(case hg=>(simp (disch:=first|omega|(simp only [go_sem];omega)) only [go_sem,seval,hgd]));(case hx=>(simp (disch:=first|omega|(simp only [go_sem];omega)) only [go_sem,seval,hgd]<;>with_reducible rfl));(case ha=>(simp (disch:=first|omega|(simp only [go_sem];omega)) only [go_sem,seval,hgd]<;>with_reducible rfl));(case he=>(with_reducible rfl));(case hf=>(simp only [go_sem]<;>with_reducible rfl)))|fail)
         all_goals try (first|exact True.intro|exact not_false|omega|(simp (disch:=first|omega|(simp only [go_sem];omega)) only [go_sem,seval]<;>omega))
         all_goals try (simp (disch:=first|omega|(simp only [go_sem];omega)) only [go_sem,seval])
         all_goals try simp
      all_goals first|trivial|omega
    all_goals first|trivial|omega
  all_goals first|trivial|omega
 have e:(T'++[ABox.grow (linesL s).length 1 9]).take n=T':=by rw [← hn'];simp
 have q:=ACall.drop cxG key (n:=n) (by rw [hn0];exact Nat.le_refl _) (by rfl) (by rw [e];exact hb')
 rwa [e] at q
end
end Go.Am
end
