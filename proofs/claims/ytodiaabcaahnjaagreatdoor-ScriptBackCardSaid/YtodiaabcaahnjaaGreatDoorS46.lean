/- Scripts' texts and what is read of them: plain laws. -/
import Derived.Test.YtodiaabcaahnjaaGreatDoorS36
import Derived.Test.YtodiaabcaahnjaaGreatDoorS21
import Derived.Test.YtodiaabcaahnjaaGreatDoorS08
set_option linter.unusedVariables false
set_option linter.unusedSimpArgs false
section
namespace Go.Am
open Go Go.Proofs
set_option maxHeartbeats 8000000
set_option maxRecDepth 100000
noncomputable def runP:Nat→Ps→List (List UInt8)→Option Ps
 |_,p,[]=>some p
 |n,p,x::L=>(stepP n p x).bind fun q=>runP (n+1) q L
theorem runP_app:∀ (A B:List (List UInt8)) (n:Nat) (p:Ps),runP n p (A++B)=(runP n p A).bind fun q=>runP (n+A.length) q B
 |[],_,_,_=>rfl
 |x::A,B,n,p=>by
  simp only [List.cons_append,runP,List.length_cons]
  cases stepP n p x with
  |none=>rfl
  |some q =>
   simp only [Option.bind_some]
   rw [runP_app A B (n+1) q]
   rw [show n+1+A.length=n+(A.length+1) by omega]
theorem preP_run (L:List (List UInt8)):∀ k,k≤L.length→preP L k=runP 0 p0 (L.take k)
 |0,_=>rfl
 |k+1,h=>by
  have hk:k<L.length:=by omega
  rw [List.take_succ_eq_append_getElem hk,runP_app,← preP_run L k (by omega)]
  show (preP L k).bind _=_
  cases preP L k with
  |none=>rfl
  |some p =>
   simp only [Option.bind_some,runP,List.length_take]
   rw [Nat.min_eq_left (by omega),Nat.zero_add]
   simp only [List.getD,List.getElem?_eq_getElem hk,Option.getD_some]
   cases stepP k p L[k]<;>rfl
theorem preP_all (L:List (List UInt8)):preP L L.length=runP 0 p0 L:=by rw [preP_run L L.length (Nat.le_refl _),List.take_length]
theorem sl_head {l:List UInt8} {x:Sl} (h:IsSl l x):(parts l [32]).headD []=x.word:=by
 obtain ⟨_,rfl⟩:=h
 cases x with
 |gran n=>simp only [Sl.text,numT_one];rw [parts_hit 32 _ _ (by decide)];rfl
 |mode b=>simp only [Sl.text];rw [parts_miss 32 _ (modeT_no b)];rfl
 |master m=>show (parts (MASTER++32::hexl m) [32]).headD []=_;rw [parts_hit 32 _ _ (by decide)];rfl
 |draw m=>show (parts (DRAW++32::hexl m) [32]).headD []=_;rw [parts_hit 32 _ _ (by decide)];rfl
 |ent n=>simp only [Sl.text,entT,numT_one];rw [parts_hit 32 _ _ (by decide)];rfl
theorem step_head {s:List UInt8} {st:Sp} (h:IsStep s st):(∃ op:Int,(1≤op∧op≤21)∧(parts s [32]).headD []=cnm op)∨(parts s [32]).headD []=LOAD∨(parts s [32]).headD []=STORE∨(parts s [32]).headD []=VERIFY:=by
 by_cases h1:st.k=1
 ·obtain ⟨hc,_⟩:=step_call h h1
  exact .inl ⟨st.op,hc.1.1,by rw [call_parts hc];rfl⟩
 ·right
  obtain ⟨hm,hok,rfl⟩:=h
  obtain ⟨k,op',xs',a,w,b⟩:=st
  rcases hm with hm|⟨_,h4⟩
  ·exact absurd hm.1 h1
  ·simp only at h4
   rcases h4 with ⟨rfl,_,_⟩|⟨rfl,_⟩|⟨rfl,_,_,_⟩
   ·have e:lineS ⟨2,op',xs',a,w,b⟩=LOAD++32::Lib.decDigits a:=by simp [lineS,numT,LOAD]
    left;rw [e,parts_hit 32 _ _ (by decide)];rfl
   ·have e:lineS ⟨3,op',xs',a,w,b⟩=STORE++32::(Lib.decDigits a++32::Lib.decDigits w):=by simp [lineS,numT,STORE]
    right;left;rw [e,parts_hit 32 _ _ (by decide)];rfl
   ·right;right
    by_cases hb0:b=[]
    ·subst hb0
     have e:lineS ⟨4,op',xs',a,w,[]⟩=VERIFY:=by simp [lineS]
     rw [e,parts_miss 32 _ (by decide)];rfl
    ·have e:lineS ⟨4,op',xs',a,w,b⟩=VERIFY++32::hexl b:=by simp [lineS,hb0]
     rw [e,parts_hit 32 _ _ (by decide)];rfl
theorem word_cnm (x:Sl) {op:Int} (h:1≤op∧op≤21):cnm op≠x.word:=by
 obtain ⟨k,rfl⟩:=Int.eq_ofNat_of_zero_le (show 0≤op by omega)
 have hall:((List.range 22).all fun k=>decide (cnm (k:Nat)≠GRAN)&&decide (cnm (k:Nat)≠modeT true)&&decide (cnm (k:Nat)≠modeT false)&&decide (cnm (k:Nat)≠MASTER)&&decide (cnm (k:Nat)≠DRAW)&&decide (cnm (k:Nat)≠ENTR))=true:=by decide +kernel
 have:=List.all_eq_true.1 hall k (List.mem_range.2 (by omega))
 simp only [Bool.and_eq_true,decide_eq_true_eq] at this
 obtain ⟨⟨⟨⟨⟨a,b⟩,c⟩,d⟩,e⟩,f⟩:=this
 cases x with
 |gran n=>exact a
 |mode v=>cases v;exact c;exact b
 |master m=>exact d
 |draw m=>exact e
 |ent n=>exact f
theorem word_st (x:Sl):x.word≠LOAD∧x.word≠STORE∧x.word≠VERIFY:=by
 cases x with
 |gran n=>exact ⟨show GRAN≠LOAD by decide,show GRAN≠STORE by decide,show GRAN≠VERIFY by decide⟩
 |mode v=>cases v<;>exact ⟨by decide,by decide,by decide⟩
 |master m=>exact ⟨show MASTER≠LOAD by decide,show MASTER≠STORE by decide,show MASTER≠VERIFY by decide⟩
 |draw m=>exact ⟨show DRAW≠LOAD by decide,show DRAW≠STORE by decide,show DRAW≠VERIFY by decide⟩
 |ent n=>exact ⟨show ENTR≠LOAD by decide,show ENTR≠STORE by decide,show ENTR≠VERIFY by decide⟩
theorem step_nosl {l:List UInt8} {st:Sp} (h:IsStep l st):∀ x,¬ IsSl l x:=fun x hx=>by
 have e:=sl_head hx
 obtain ⟨w1,w2,w3⟩:=word_st x
 rcases step_head h with ⟨op,ho,k⟩|k|k|k
 ·exact word_cnm x ho (k.symm.trans e)
 ·exact w1 (e.symm.trans k)
 ·exact w2 (e.symm.trans k)
 ·exact w3 (e.symm.trans k)
theorem step_uniq {l:List UInt8} {st st':Sp} (h:IsStep l st) (h':IsStep l st'):st=st':=by
 by_cases h1:st.k=1
 ·obtain ⟨hc,he⟩:=step_call h h1
  by_cases h1':st'.k=1
  ·obtain ⟨hc',he'⟩:=step_call h' h1'
   obtain ⟨e1,e2⟩:=call_unique hc hc'
   rw [he,he',e1,e2]
  ·exact absurd hc (step_nocall h' h1' _ _)
 ·by_cases h1':st'.k=1
  ·obtain ⟨hc',_⟩:=step_call h' h1'
   exact absurd hc' (step_nocall h h1 _ _)
  ·exact step_unique h h' h1 h1'
theorem stOf_is {l:List UInt8} {st:Sp} (h:IsStep l st):stOf l=some st:=by
 rcases stOf_cases l with ⟨y,hy,e⟩|⟨k,_⟩
 ·rw [e,step_uniq hy h]
 ·exact absurd h (k st)
theorem stepP_sl {n:Nat} {p:Ps} {y:Sl} (hy:y.Ok) (hb:¬ Bad n p.rank y.rank) (h1:(y.app p.s).d.length≤4096) (h2:(y.app p.s).e.length≤4096):stepP n p y.text=some ⟨y.app p.s,p.l,y.rank⟩:=by
 unfold stepP
 rw [slOf_is ⟨hy,rfl⟩]
 simp only [stepW,if_neg hb]
 rw [if_pos ⟨h1,h2⟩]
theorem stepP_st {n:Nat} {p:Ps} {st:Sp} (hm:MayS st) (ho:st.Ok) (h3:3≤n) (hl:p.l.length<65536):stepP n p (lineS st)=some ⟨p.s,p.l++[st],5⟩:=by
 have hs:IsStep (lineS st) st:=⟨hm,ho,rfl⟩
 unfold stepP
 rw [slOf_no (step_nosl hs),stOf_is hs]
 simp only [stepW,if_neg (show ¬ n<3 by omega)]
 rw [if_pos hl]
theorem run_draws:∀ (D:List (List UInt8)) (n:Nat) (p:Ps),3≤n→p.rank≤3→(∀ x∈D,x.length=32)→p.s.d.length+D.length≤4096→p.s.e.length≤4096 →
  ∃ r,r≤3∧runP n p (D.map (digT DRAW))=some ⟨{ p.s with d:=p.s.d++D },p.l,r⟩
 |[],n,p,_,h,_,_,_=>⟨p.rank,h,by simp [runP]⟩
 |x::D,n,p,h3,hr,hD,hl,he=>by
  have hx:=hD x (List.mem_cons_self ..)
  have hst:=stepP_sl (n:=n) (p:=p) (y:=.draw x) hx (by unfold Bad;simp only [Sl.rank];omega) (by simp [Sl.app] at hl ⊢;omega) (by simpa [Sl.app] using he)
  obtain ⟨r,hr',e⟩:=run_draws D (n+1) ⟨{ p.s with d:=p.s.d++[x] },p.l,3⟩ (by omega) (Nat.le_refl _) (fun y hy=>hD y (List.mem_cons_of_mem _ hy)) (by simp at hl ⊢;omega) he
  refine ⟨r,hr',?_⟩
  simp only [List.map_cons,runP]
  rw [show digT DRAW x=(Sl.draw x).text from rfl,hst]
  simp only [Option.bind_some]
  rw [show (Sl.draw x).app p.s={ p.s with d:=p.s.d++[x] } from rfl,show (Sl.draw x).rank=3 from rfl,e]
  simp
theorem run_ents:∀ (W:List Nat) (n:Nat) (p:Ps),3≤n→p.rank≤4→(∀ x∈W,x<18446744073709551616)→p.s.d.length≤4096→p.s.e.length+W.length≤4096 →
  ∃ r,r≤4∧runP n p (W.map entT)=some ⟨{ p.s with e:=p.s.e++W },p.l,r⟩
 |[],n,p,_,h,_,_,_=>⟨p.rank,h,by simp [runP]⟩
 |x::W,n,p,h3,hr,hD,hl,he=>by
  have hx:=hD x (List.mem_cons_self ..)
  have hst:=stepP_sl (n:=n) (p:=p) (y:=.ent x) hx (by unfold Bad;simp only [Sl.rank];omega) (by simpa [Sl.app] using hl) (by simp [Sl.app] at he ⊢;omega)
  obtain ⟨r,hr',e⟩:=run_ents W (n+1) ⟨{ p.s with e:=p.s.e++[x] },p.l,4⟩ (by omega) (Nat.le_refl _) (fun y hy=>hD y (List.mem_cons_of_mem _ hy)) hl (by simp at he ⊢;omega)
  refine ⟨r,hr',?_⟩
  simp only [List.map_cons,runP]
  rw [show entT x=(Sl.ent x).text from rfl,hst]
  simp only [Option.bind_some]
  rw [show (Sl.ent x).app p.s={ p.s with e:=p.s.e++[x] } from rfl,show (Sl.ent x).rank=4 from rfl,e]
  simp
theorem run_steps:∀ (l:List Sp) (n:Nat) (p:Ps),3≤n→p.rank≤5→(∀ x∈l,MayS x∧x.Ok)→p.l.length+l.length≤65536 →
  ∃ r,r≤5∧runP n p (l.map lineS)=some ⟨p.s,p.l++l,r⟩
 |[],n,p,_,h,_,_=>⟨p.rank,h,by simp [runP]⟩
 |x::l,n,p,h3,hr,hD,hl=>by
  have hx:=hD x (List.mem_cons_self ..)
  have hst:=stepP_st (n:=n) (p:=p) (st:=x) hx.1 hx.2 h3 (by simp at hl;omega)
  obtain ⟨r,hr',e⟩:=run_steps l (n+1) ⟨p.s,p.l++[x],5⟩ (by omega) (Nat.le_refl _) (fun y hy=>hD y (List.mem_cons_of_mem _ hy)) (by simp at hl ⊢;omega)
  refine ⟨r,hr',?_⟩
  simp only [List.map_cons,runP]
  rw [hst]
  simp only [Option.bind_some]
  rw [e]
  simp
theorem run_script (s:Su) (hs:s.Ok) (hm:MaySu s) (l:List Sp) (hl:∀ x∈l,MayS x∧x.Ok) (h6:l.length≤65536):∃ r,runP 0 p0 (linesL s++l.map lineS)=some ⟨s,l,r⟩:=by
 obtain ⟨g,i,m,d,e⟩:=s
 obtain ⟨⟨hg1,hg2⟩,hd,he⟩:=hm
 simp only at hg1 hg2 hd he
 obtain ⟨w,rfl⟩:=Int.eq_ofNat_of_zero_le (show 0≤g by omega)
 have hm32:m.length=32:=hs.m32
 have a1:=stepP_sl (n:=0) (p:=p0) (y:=.gran w) (show 1≤w∧w≤4096 by omega) (by unfold Bad;simp [Sl.rank]) (by simp [Sl.app,p0]) (by simp [Sl.app,p0])
 have a2:=stepP_sl (n:=1) (p:=⟨(Sl.gran w).app p0.s,p0.l,0⟩) (y:=.mode i) trivial (by unfold Bad;simp [Sl.rank]) (by simp [Sl.app,p0]) (by simp [Sl.app,p0])
 have a3:=stepP_sl (n:=2) (p:=⟨(Sl.mode i).app ((Sl.gran w).app p0.s),p0.l,1⟩) (y:=.master m) hm32 (by unfold Bad;simp [Sl.rank]) (by simp [Sl.app,p0]) (by simp [Sl.app,p0])
 obtain ⟨r1,hr1,b1⟩:=run_draws d 3 ⟨⟨(w:Int),i,m,[],[]⟩,[],2⟩ (Nat.le_refl _) (show (2:Nat)≤3 by decide) hs.d32 (by simpa using hd) (by simp)
 obtain ⟨r2,hr2,b2⟩:=run_ents e (3+d.length) ⟨⟨(w:Int),i,m,d,[]⟩,[],r1⟩ (by omega) (by simp only;omega) hs.ew hd (by simpa using he)
 obtain ⟨r3,hr3,b3⟩:=run_steps l (3+d.length+e.length) ⟨⟨(w:Int),i,m,d,e⟩,[],r2⟩ (by omega) (by simp only;omega) hl (by simpa using h6)
 refine ⟨r3,?_⟩
 have hL:linesL ⟨(w:Int),i,m,d,e⟩=[(Sl.gran w).text,(Sl.mode i).text,(Sl.master m).text]++(d.map (digT DRAW)++e.map entT):=by
  unfold linesL linesA
  simp [Sl.text]
 rw [hL,List.append_assoc,List.append_assoc,runP_app]
 have a:runP 0 p0 [(Sl.gran w).text,(Sl.mode i).text,(Sl.master m).text]=some ⟨⟨(w:Int),i,m,[],[]⟩,[],2⟩:=by
  simp only [runP]
  rw [a1]
  simp only [Option.bind_some,Nat.zero_add]
  rw [show (Sl.gran w).rank=0 from rfl,a2]
  simp only [Option.bind_some]
  rw [show (Sl.mode i).rank=1 from rfl,show 1+1=2 from rfl,a3]
  rfl
 rw [a]
 simp only [Option.bind_some,List.length_cons,List.length_nil]
 rw [runP_app,show 0+(0+1+1+1)=3 from rfl,b1]
 simp only [Option.bind_some,List.length_map,List.nil_append]
 rw [runP_app,b2]
 simp only [Option.bind_some,List.length_map,List.nil_append]
 rw [b3]
 simp
end Go.Am
end
section
namespace Go.Am
open Go Go.Proofs
set_option maxHeartbeats 8000000
set_option maxRecDepth 100000
section
attribute [local irreducible] aC aL thenQ blockQ scopeQ ALoop AWp
section
variable {C:Cx}
theorem fill_oneN (S:St) (n:Nat) (z:ABox):∀ L:Holes,(∀ e∈L,e=(n,z))→fill S L=S∨fill S L=S.set n z
 |[],_=>.inl rfl
 |e::L,h=>by
  obtain rfl:=h e (List.mem_cons_self ..)
  right
  show fill (S.set n z) L=_
  rcases fill_oneN (S.set n z) n z L (fun e he=>h e (List.mem_cons_of_mem _ he)) with k|k
  ·exact k
  ·rw [k];simp
theorem aLH_keepN {U:UL} {B:List (Option Nat × Nat)} {p:FuncId→Bool} {q:Nat→Option UL} {d:Option Nat} {gd:Option (Option Nat × Bool)} {x:Operand} {xs:Array Operand} {ts:Array TypeId} {rest:List LO} {Q:Fr→St→Prop} {fr:Fr} {f:FuncId} {zs bs args cargs:List AVal} {r:AVal} {z:ABox} {fr':Fr} {n:Nat} {S1 S2:St}
  (hc:ACall C f cargs S1 r S1) (hz:ACall C f cargs S2 r S2) (hS2:S1.set n z=S2) (hp:p f=false) (hg:wantL gd fr=some true) (hx:aEval (C.wp p q) fr.get x = .fn (.func f) zs bs) (ha:zs++xs.toList.map (aEval (C.wp p q) fr.get)++bs=args) (he:cargs=args) (hf:fr.put d r=fr')
  (k:aL (C.wp p q) (some (U,B,[(n,z)])) rest Q fr' S1):aL (C.wp p q) (some (U,B,[(n,z)])) (⟨d,.call ⟨.value x,xs,ts⟩,gd⟩::rest) Q fr S1:=by
 subst hS2
 refine aLH_call hg hx ha (he▸hc.callX hp) hf (fun _ _ h=>h) (fun L hL=>?_) (fun _ _ _=>rfl) k
 rcases fill_oneN S1 n z L (fun e he'=>by simpa using (hL e he').1) with e|e
 ·rw [e];exact he▸hc.callX hp
 ·rw [e];exact he▸hz.callX hp
end
theorem zeroC_lit:zeroC=(.int .i64 0 :: .bool false::(bl [0,0,0,0,0,0,0,0,0,0,0,0,0,0,0,0,0,0,0,0,0,0,0,0,0,0,0,0,0,0,0,0]++[.sl 1 true [] .any,.sl 1 true [] .any]):List AVal):=rfl
theorem script_Take (line:List UInt8) (hline:line.length≤100000) (s:Su) (hs:s.m.length=32) (nd ne:Bool) (hnd:nd=true→s.d=[]) (hne:ne=true→s.e=[]) (hld:s.d.length≤4000) (hle:s.e.length≤4000) (y:Sl) (hy:IsSl line y) :
  APure cx 26 [.agg (suC s nd ne),.str line] (.tup [.agg (suC (y.app s) (y.nd nd) (y.ne ne)),.int .i64 0]):=by
 have hm:=say_map
 have hm':(y.app s).m.length=32:=by cases y<;>first|exact hs|exact hy.1
 have hT:=fun (Z:ABox) (hZ:belB 4 Z=true) (S:St) (hS:S=[.cells (suC s nd ne) 45,.cells zeroC 45,Z,.mp SAY 6])=>script_take S 3 4 (by rw [hS];rfl) (by rw [hS];rfl) (by
   rw [hS]
   show (belB 4 _&&(belB 4 _&&(belB 4 Z&&(belB 4 _&&true))))=true
   rw [hZ,say_bel]
   have e1:belB 4 (.cells (suC s nd ne) 45)=true:=bels_suC 4 s nd ne
   rw [e1]
   rfl) (by decide) line (by omega) s hs nd ne hnd hne (by omega) (by omega) _ (.inl ⟨y,hy,rfl⟩)
 have hy4:=y.rank_le
 have hd2:(y.app s).d.length≤4001:=by cases y<;>simp [Sl.app]<;>omega
 have he2:(y.app s).e.length≤4001:=by cases y<;>simp [Sl.app]<;>omega
 have hnd2:y.nd nd=true→(y.app s).d=[]:=fun h=>by cases y<;>simp [Sl.nd,Sl.app] at h ⊢<;>exact hnd h
 have hne2:y.ne ne=true→(y.app s).e=[]:=fun h=>by cases y<;>simp [Sl.ne,Sl.app] at h ⊢<;>exact hne h
 unfold tookR at hT
 generalize y.app s=s' at *
 generalize y.nd nd=nd' at *
 generalize y.ne ne=ne' at *
 generalize y.rank=yr at *
 obtain ⟨g,i,m,d,e⟩:=s
 obtain ⟨g',i',m',d',e'⟩:=s'
 have hT1:=hT .hole rfl _ rfl
 have hT2:=hT (.cells zeroC 45) rfl _ rfl
 clear hT
 rw [zeroC_lit] at hT1 hT2
 unfold suC at *
 simp only at *
 cases nd'
 case' false=>have hcd:=fun S:St=>clone_dg d' (by omega) S
 case' true =>
  obtain rfl:=hnd2 rfl
  have hcd:=fun _:St=>clone_dgN
  simp only [dgs_nil] at *
 all_goals
 cases ne'
 case' false=>have hce:=fun S:St=>clone_wl e' (by omega) S
 case' true =>
  obtain rfl:=hne2 rfl
  have hce:=fun _:St=>clone_wlN
  simp only [wlx_nil] at *
 all_goals
 refine pure_fnD cxOk Tryz.func26 (fun _=>false) (fe26.q) (by kernel_rfl) (by dsimp only [Tryz.f26,go_sem,seval,liteO,Option.map,List.map];exact .mk _) ?_
 dsimp only [Tryz.f26,frame0,List.zipIdx,List.map,Nat.reduceAdd]
 try simp only [List.getElem?_toArray,List.getElem?_cons_succ,List.getElem?_cons_zero,Option.bind_some]
 repeat' (first|refine aC_seq ?_|refine aC_reg rfl ?_|refine thenQ_normal ?_|refine aL_nil ?_|(apply aL_step;(·exact True.intro);(iterate 2 (·simp (disch:=first|omega|(simp only [go_sem];omega)) only [go_sem,seval]<;>with_reducible rfl));(·simp only [go_sem]<;>with_reducible rfl))|fail)
 all_goals try (first|exact True.intro|exact not_false|omega|(simp (disch:=first|omega|(simp only [go_sem];omega)) only [go_sem,seval]<;>omega))
 all_goals
 refine aC_regH (U:=[(some 10,some 12),(some 10,some 6)]) rfl [(some 10,0)] [(2,.cells (.int .i64 0 :: .bool false::(bl [0,0,0,0,0,0,0,0,0,0,0,0,0,0,0,0,0,0,0,0,0,0,0,0,0,0,0,0,0,0,0,0]++[.sl 1 true [] .any,.sl 1 true [] .any])) 45)] 1 ?_
 all_goals
 repeat' (first|refine aLH_nil ?_|(apply aLH_step;(·exact True.intro);(·rfl);(·rfl);(·simp (disch:=first|omega|(simp only [go_sem];omega)) only [go_sem,seval,decide_true,decide_false,not_false_eq_true,hs,hm',drop32 hs,set32 hs,take32 hs,drop32 hm',set32 hm',take32 hm']);(·simp (disch:=first|omega|(simp only [go_sem];omega)) only [go_sem,seval,decide_true,decide_false,not_false_eq_true,hs,hm',drop32 hs,set32 hs,take32 hs,drop32 hm',set32 hm',take32 hm']<;>with_reducible rfl);(·simp only [go_sem]<;>with_reducible rfl);(·(intro b hb;first|(cases hb;done)|(simp (disch:=first|omega|(simp only [go_sem];omega)) only [loadBox,go_sem,seval] at hb;(try injection hb with hb);subst hb;simp))))|(apply aLH_write;(·exact True.intro);(·rfl);(·rfl);(·rfl);(·simp (disch:=first|omega|(simp only [go_sem];omega)) only [go_sem,seval,decide_true,decide_false,not_false_eq_true,hs,hm',drop32 hs,set32 hs,take32 hs,drop32 hm',set32 hm',take32 hm']);(·simp (disch:=first|omega|(simp only [go_sem];omega)) only [go_sem,seval,decide_true,decide_false,not_false_eq_true,hs,hm',drop32 hs,set32 hs,take32 hs,drop32 hm',set32 hm',take32 hm']<;>with_reducible rfl);(·simp only [go_sem]<;>with_reducible rfl);(·simp);(·simp);(·simp))|(apply aLH_fresh (say_map);(case hg=>(simp (disch:=first|omega|(simp only [go_sem];omega)) only [go_sem,seval,decide_true,decide_false,not_false_eq_true,hs,hm',drop32 hs,set32 hs,take32 hs,drop32 hm',set32 hm',take32 hm']));(case hx=>(simp (disch:=first|omega|(simp only [go_sem];omega)) only [go_sem,seval,decide_true,decide_false,not_false_eq_true,hs,hm',drop32 hs,set32 hs,take32 hs,drop32 hm',set32 hm',take32 hm']<;>with_reducible rfl));(case ha=>(simp (disch:=first|omega|(simp only [go_sem];omega)) only [go_sem,seval,decide_true,decide_false,not_false_eq_true,hs,hm',drop32 hs,set32 hs,take32 hs,drop32 hm',set32 hm',take32 hm']<;>with_reducible rfl));(case he=>(with_reducible rfl));(case hp=>(rfl));(case hz=>(intro h;cases h));(case hB=>(simp));(case hf=>(simp only [go_sem]<;>with_reducible rfl)))|(apply aLH_alloc 2;(case hg=>(simp (disch:=first|omega|(simp only [go_sem];omega)) only [go_sem,seval,decide_true,decide_false,not_false_eq_true,hs,hm',drop32 hs,set32 hs,take32 hs,drop32 hm',set32 hm',take32 hm']));(case hi=>(simp (disch:=first|omega|(simp only [go_sem];omega)) only [go_sem,seval,decide_true,decide_false,not_false_eq_true,hs,hm',drop32 hs,set32 hs,take32 hs,drop32 hm',set32 hm',take32 hm']<;>with_reducible rfl));(case hs=>(simp (disch:=first|omega|(simp only [go_sem];omega)) only [go_sem,seval,decide_true,decide_false,not_false_eq_true,hs,hm',drop32 hs,set32 hs,take32 hs,drop32 hm',set32 hm',take32 hm']<;>with_reducible rfl));(case hS=>(simp (disch:=first|omega|(simp only [go_sem];omega)) only [go_sem,seval,decide_true,decide_false,not_false_eq_true,hs,hm',drop32 hs,set32 hs,take32 hs,drop32 hm',set32 hm',take32 hm']<;>with_reducible rfl));(case hf=>(simp only [go_sem]<;>with_reducible rfl));(case hH=>(simp));(case hk=>(simp)))|(apply aLH_keepN hT1 hT2;(·rfl);(·rfl);(·simp (disch:=first|omega|(simp only [go_sem];omega)) only [go_sem,seval,decide_true,decide_false,not_false_eq_true,hs,hm',drop32 hs,set32 hs,take32 hs,drop32 hm',set32 hm',take32 hm']);(·simp (disch:=first|omega|(simp only [go_sem];omega)) only [go_sem,seval,decide_true,decide_false,not_false_eq_true,hs,hm',drop32 hs,set32 hs,take32 hs,drop32 hm',set32 hm',take32 hm']<;>with_reducible rfl);(·simp (disch:=first|omega|(simp only [go_sem];omega)) only [go_sem,seval,decide_true,decide_false,not_false_eq_true,hs,hm',drop32 hs,set32 hs,take32 hs,drop32 hm',set32 hm',take32 hm']<;>with_reducible rfl);(·with_reducible rfl);(·simp only [go_sem]<;>with_reducible rfl))|fail)
 all_goals
 repeat' (first|refine aC_seq ?_|refine aC_reg rfl ?_|refine aC_block ?_|refine aC_skip ?_|refine thenQ_normal ?_|refine blockQ_normal ?_|refine aL_nil ?_|(apply aL_step;(·exact True.intro);(iterate 2 (·simp (disch:=first|omega|(simp only [go_sem];omega)) only [go_sem,seval,decide_true,decide_false,not_false_eq_true,hs,hm',drop32 hs,set32 hs,take32 hs,drop32 hm',set32 hm',take32 hm']<;>with_reducible rfl));(·simp only [go_sem]<;>with_reducible rfl))|(refine aL_skip ?_ (by simp only [go_sem]<;>with_reducible rfl) ?_;(·simp (disch:=first|omega|(simp only [go_sem];omega)) only [go_sem,seval,decide_true,decide_false,not_false_eq_true,hs,hm',drop32 hs,set32 hs,take32 hs,drop32 hm',set32 hm',take32 hm']))|(apply aL_guardN;(·simp (disch:=first|omega|(simp only [go_sem];omega)) only [go_sem,seval,decide_true,decide_false,not_false_eq_true,hs,hm',drop32 hs,set32 hs,take32 hs,drop32 hm',set32 hm',take32 hm']<;>with_reducible rfl);all_goals (intro h;first|(exfalso;omega)|(simp only [h,decide_true,decide_false,not_true,not_false_iff])))|(apply aL_guardP;(·simp (disch:=first|omega|(simp only [go_sem];omega)) only [go_sem,seval,decide_true,decide_false,not_false_eq_true,hs,hm',drop32 hs,set32 hs,take32 hs,drop32 hm',set32 hm',take32 hm']<;>with_reducible rfl);all_goals (intro h;first|(exfalso;omega)|(simp only [h,decide_true,decide_false,not_true,not_false_iff])))|(refine aC_condF ?_ ?_;(·simp (disch:=first|omega|(simp only [go_sem];omega)) only [go_sem,seval,decide_true,decide_false,not_false_eq_true,hs,hm',drop32 hs,set32 hs,take32 hs,drop32 hm',set32 hm',take32 hm']))|(refine aC_condP (by simp (disch:=first|omega|(simp only [go_sem];omega)) only [go_sem,seval,decide_true,decide_false,not_false_eq_true,hs,hm',drop32 hs,set32 hs,take32 hs,drop32 hm',set32 hm',take32 hm']<;>with_reducible rfl) ?_ ?_<;>(intro h;first|(exfalso;omega)|skip))|fail)
 all_goals try (first|exact True.intro|exact not_false|omega|(simp (disch:=first|omega|(simp only [go_sem];omega)) only [go_sem,seval]<;>omega))
 all_goals try refine aC_regB (U:=[(some 45,some 43)]) rfl [(some 42,2),(some 45,2)] ?_
 all_goals
 repeat' (first|refine aLB_nil ?_|(apply aLB_step;(·exact True.intro);(·exact (by intro h;cases h));(·rfl);(·simp (disch:=first|omega|(simp only [go_sem];omega)) only [go_sem,seval,decide_true,decide_false,not_false_eq_true,hs,hm',drop32 hs,set32 hs,take32 hs,drop32 hm',set32 hm',take32 hm']);(·simp (disch:=first|omega|(simp only [go_sem];omega)) only [go_sem,seval,decide_true,decide_false,not_false_eq_true,hs,hm',drop32 hs,set32 hs,take32 hs,drop32 hm',set32 hm',take32 hm']<;>with_reducible rfl);(·simp only [go_sem]<;>with_reducible rfl);(·(intro b hb;first|(cases hb;done)|(simp (disch:=first|omega|(simp only [go_sem];omega)) only [loadBox,go_sem,seval] at hb;(try injection hb with hb);subst hb;simp))))|(apply aLB_write;(·exact True.intro);(·rfl);(·rfl);(·simp (disch:=first|omega|(simp only [go_sem];omega)) only [go_sem,seval,decide_true,decide_false,not_false_eq_true,hs,hm',drop32 hs,set32 hs,take32 hs,drop32 hm',set32 hm',take32 hm']);(·simp (disch:=first|omega|(simp only [go_sem];omega)) only [go_sem,seval,decide_true,decide_false,not_false_eq_true,hs,hm',drop32 hs,set32 hs,take32 hs,drop32 hm',set32 hm',take32 hm']<;>with_reducible rfl);(·simp only [go_sem]<;>with_reducible rfl);(·simp))|(apply aLB_pure cxG ((hcd []));(case hg=>(simp (disch:=first|omega|(simp only [go_sem];omega)) only [go_sem,seval,decide_true,decide_false,not_false_eq_true,hs,hm',drop32 hs,set32 hs,take32 hs,drop32 hm',set32 hm',take32 hm']));(case hx=>(simp (disch:=first|omega|(simp only [go_sem];omega)) only [go_sem,seval,decide_true,decide_false,not_false_eq_true,hs,hm',drop32 hs,set32 hs,take32 hs,drop32 hm',set32 hm',take32 hm']<;>with_reducible rfl));(case ha=>(simp (disch:=first|omega|(simp only [go_sem];omega)) only [go_sem,seval,decide_true,decide_false,not_false_eq_true,hs,hm',drop32 hs,set32 hs,take32 hs,drop32 hm',set32 hm',take32 hm']<;>with_reducible rfl));(case he=>(simp only [go_sem]<;>with_reducible rfl));(case hcl=>(simp));(case hf=>(simp only [go_sem]<;>with_reducible rfl)))|(apply aLB_acall ((hcd _));(case hg=>(simp (disch:=first|omega|(simp only [go_sem];omega)) only [go_sem,seval,decide_true,decide_false,not_false_eq_true,hs,hm',drop32 hs,set32 hs,take32 hs,drop32 hm',set32 hm',take32 hm']));(case hx=>(simp (disch:=first|omega|(simp only [go_sem];omega)) only [go_sem,seval,decide_true,decide_false,not_false_eq_true,hs,hm',drop32 hs,set32 hs,take32 hs,drop32 hm',set32 hm',take32 hm']<;>with_reducible rfl));(case ha=>(simp (disch:=first|omega|(simp only [go_sem];omega)) only [go_sem,seval,decide_true,decide_false,not_false_eq_true,hs,hm',drop32 hs,set32 hs,take32 hs,drop32 hm',set32 hm',take32 hm']<;>with_reducible rfl));(case he=>(with_reducible rfl));(case hp=>(rfl));(case hf=>(simp only [go_sem]<;>with_reducible rfl));(case hk=>(simp)))|(apply aLB_pure cxG ((hce []));(case hg=>(simp (disch:=first|omega|(simp only [go_sem];omega)) only [go_sem,seval,decide_true,decide_false,not_false_eq_true,hs,hm',drop32 hs,set32 hs,take32 hs,drop32 hm',set32 hm',take32 hm']));(case hx=>(simp (disch:=first|omega|(simp only [go_sem];omega)) only [go_sem,seval,decide_true,decide_false,not_false_eq_true,hs,hm',drop32 hs,set32 hs,take32 hs,drop32 hm',set32 hm',take32 hm']<;>with_reducible rfl));(case ha=>(simp (disch:=first|omega|(simp only [go_sem];omega)) only [go_sem,seval,decide_true,decide_false,not_false_eq_true,hs,hm',drop32 hs,set32 hs,take32 hs,drop32 hm',set32 hm',take32 hm']<;>with_reducible rfl));(case he=>(simp only [go_sem]<;>with_reducible rfl));(case hcl=>(simp));(case hf=>(simp only [go_sem]<;>with_reducible rfl)))|(apply aLB_acall ((hce _));(case hg=>(simp (disch:=first|omega|(simp only [go_sem];omega)) only [go_sem,seval,decide_true,decide_false,not_false_eq_true,hs,hm',drop32 hs,set32 hs,take32 hs,drop32 hm',set32 hm',take32 hm']));(case hx=>(simp (disch:=first|omega|(simp only [go_sem];omega)) only [go_sem,seval,decide_true,decide_false,not_false_eq_true,hs,hm',drop32 hs,set32 hs,take32 hs,drop32 hm',set32 hm',take32 hm']<;>with_reducible rfl));(case ha=>(simp (disch:=first|omega|(simp only [go_sem];omega)) only [go_sem,seval,decide_true,decide_false,not_false_eq_true,hs,hm',drop32 hs,set32 hs,take32 hs,drop32 hm',set32 hm',take32 hm']<;>with_reducible rfl));(case he=>(with_reducible rfl));(case hp=>(rfl));(case hf=>(simp only [go_sem]<;>with_reducible rfl));(case hk=>(simp)))|fail)
 all_goals
 repeat' (first|refine aC_seq ?_|refine aC_reg rfl ?_|refine aC_ret ?_|refine thenQ_normal ?_|refine aL_nil ?_|(apply aL_step;(·exact True.intro);(iterate 2 (·simp (disch:=first|omega|(simp only [go_sem];omega)) only [go_sem,seval,decide_true,decide_false,not_false_eq_true,hs,hm',drop32 hs,set32 hs,take32 hs,drop32 hm',set32 hm',take32 hm']<;>with_reducible rfl));(·simp only [go_sem]<;>with_reducible rfl))|fail)
 all_goals try (first|exact True.intro|exact not_false|omega|(simp (disch:=first|omega|(simp only [go_sem];omega)) only [go_sem,seval]<;>omega))
 all_goals clear hT1 hT2 hcd hce hm
 all_goals try (simp (disch:=first|omega|(simp only [go_sem];omega)) only [go_sem,seval])
 all_goals try simp [Wk,Wks,Wks_app,dgs,wl]
 all_goals try omega
end
end Go.Am
end
section
namespace Go.Am
open Go Go.Proofs
set_option maxHeartbeats 8000000
set_option maxRecDepth 100000
section
attribute [local irreducible] aC aL thenQ blockQ scopeQ ALoop AWp
theorem PL48_0 (z:List AVal):placeOf cx.T ⟨(.struct #[⟨ "Setup", 45,0,false, "", "", 0⟩,⟨ "Steps", 46,36,false, "", "", 96⟩]),37,120,z⟩ 0=some (0,36):=by kernel_rfl
attribute [go_sem] PL48_0
theorem law_setup (s:Su) (hs:s.m.length=32) (nd ne:Bool):APure cx 27 [.agg (suC s nd ne)] (.agg (scC s nd ne [] true)):=by
 obtain ⟨g,i,m,d,e⟩:=s
 unfold suC scC
 simp only at *
 refine pure_fnD cxOk Tryz.func27 (fun _=>false) (fe27.q) (by kernel_rfl) (by dsimp only [Tryz.f27,go_sem,seval,liteO,Option.map,List.map];exact .mk _) ?_
 dsimp only [Tryz.f27,frame0,List.zipIdx,List.map,Nat.reduceAdd]
 try simp only [List.getElem?_toArray,List.getElem?_cons_succ,List.getElem?_cons_zero,Option.bind_some]
 repeat' (first|(apply aL_boxI;(case hg=>(simp (disch:=first|omega|(simp only [go_sem];omega)) only [go_sem,seval,put32 (m:=[0,0,0,0,0,0,0,0,0,0,0,0,0,0,0,0,0,0,0,0,0,0,0,0,0,0,0,0,0,0,0,0]) rfl hs,hs,drop32 hs,set32 hs,take32 hs,putCells_cons0]));(case h=>(simp (disch:=first|omega|(simp only [go_sem];omega)) only [go_sem,seval,put32 (m:=[0,0,0,0,0,0,0,0,0,0,0,0,0,0,0,0,0,0,0,0,0,0,0,0,0,0,0,0,0,0,0,0]) rfl hs,hs,drop32 hs,set32 hs,take32 hs,putCells_cons0]<;>with_reducible rfl));(case hf=>(simp only [go_sem]<;>with_reducible rfl));(case hs=>(simp (disch:=first|omega|(simp only [go_sem];omega)) only [go_sem,seval,put32 (m:=[0,0,0,0,0,0,0,0,0,0,0,0,0,0,0,0,0,0,0,0,0,0,0,0,0,0,0,0,0,0,0,0]) rfl hs,hs,drop32 hs,set32 hs,take32 hs,putCells_cons0])))|refine aC_seq ?_|refine aC_reg rfl ?_|refine aC_ret ?_|refine thenQ_normal ?_|refine aL_nil ?_|(apply aL_step;(·exact True.intro);(iterate 2 (·simp (disch:=first|omega|(simp only [go_sem];omega)) only [go_sem,seval,put32 (m:=[0,0,0,0,0,0,0,0,0,0,0,0,0,0,0,0,0,0,0,0,0,0,0,0,0,0,0,0,0,0,0,0]) rfl hs,hs,drop32 hs,set32 hs,take32 hs,putCells_cons0]<;>with_reducible rfl));(·simp only [go_sem]<;>with_reducible rfl))|fail)
 all_goals try (first|exact True.intro|exact not_false|omega|(simp (disch:=first|omega|(simp only [go_sem];omega)) only [go_sem,seval]<;>omega))
 all_goals try (simp (disch:=first|omega|(simp only [go_sem];omega)) only [go_sem,seval])
 all_goals try simp [Wk,Wks,Wks_app,sts]
 all_goals try omega
def sls (s:Su):List Sl:=.gran s.g.toNat :: .mode s.i :: .master s.m::(s.d.map .draw++s.e.map .ent)
theorem sls_text (s:Su):(sls s).map Sl.text=linesL s:=by
 unfold sls linesL linesA
 simp [Sl.text,Function.comp_def]
theorem sls_ok {s:Su} (hs:s.Ok) (hm:MaySu s):∀ y∈sls s,y.Ok:=by
 have hg:=hm.1
 intro y hy
 simp only [sls,List.mem_cons,List.mem_append,List.mem_map] at hy
 rcases hy with rfl|rfl|rfl|⟨x,hx,rfl⟩|⟨x,hx,rfl⟩
 ·exact (show 1≤s.g.toNat∧s.g.toNat≤4096 by omega)
 ·trivial
 ·exact hs.m32
 ·exact hs.d32 x hx
 ·exact hs.ew x hx
def mkS (s:Su) (k:Nat):Su:=((sls s).take k).foldl (fun a y=>y.app a) p0.s
theorem mkS_succ (s:Su) (k:Nat) (h:k<(sls s).length):mkS s (k+1)=(sls s)[k].app (mkS s k):=by
 unfold mkS
 rw [List.take_succ_eq_append_getElem h,List.foldl_append]
 rfl
theorem mkS_len (s:Su) (hs:∀ y∈sls s,y.Ok):∀ k,k≤(sls s).length→(mkS s k).d.length≤k∧(mkS s k).e.length≤k∧(mkS s k).m.length=32
 |0,_=>by unfold mkS;simp [p0]
 |k+1,h=>by
  have ih:=mkS_len s hs k (by omega)
  rw [mkS_succ s k (by omega)]
  have hy:=hs _ (List.getElem_mem (show k<(sls s).length by omega))
  generalize (sls s)[k]=y at *
  cases y with
  |gran n=>simp only [Sl.app];omega
  |mode b=>simp only [Sl.app];omega
  |master m=>exact ⟨by simp only [Sl.app];omega,by simp only [Sl.app];omega,hy⟩
  |draw m=>simp [Sl.app];omega
  |ent n=>simp [Sl.app];omega
theorem fold_draws:∀ (D:List (List UInt8)) (a:Su),(D.map Sl.draw).foldl (fun a y=>y.app a) a={ a with d:=a.d++D }
 |[],a=>by simp
 |x::D,a=>by
  simp only [List.map_cons,List.foldl_cons]
  rw [fold_draws D]
  simp [Sl.app]
theorem fold_ents:∀ (D:List Nat) (a:Su),(D.map Sl.ent).foldl (fun a y=>y.app a) a={ a with e:=a.e++D }
 |[],a=>by simp
 |x::D,a=>by
  simp only [List.map_cons,List.foldl_cons]
  rw [fold_ents D]
  simp [Sl.app]
theorem mkS_all (s:Su) (hm:MaySu s):mkS s (sls s).length=s:=by
 have hg:=hm.1
 unfold mkS
 rw [List.take_length]
 unfold sls
 simp only [List.foldl_cons,List.foldl_append]
 rw [fold_draws,fold_ents]
 obtain ⟨g,i,m,d,e⟩:=s
 simp only at hg
 simp [Sl.app,p0]
 omega
def mkC (s:Su) (k:Nat):List AVal:=if k=0 then zeroC else suC (mkS s k) (mkS s k).d.isEmpty (mkS s k).e.isEmpty
theorem mkC_bel (s:Su) (k n:Nat):bels n (mkC s k)=true:=by
 unfold mkC
 split
 ·rfl
 ·exact bels_suC n _ _ _
theorem back_lines (s:Su) (hs:s.Ok) (hm:MaySu s) (hd:s.d.length≤100) (he:s.e.length≤100) (nd ne:Bool) (P:St) (np:Nat) (hP:P.length=np) (E0 L:ABox)
  (hb:belS (np+3) (P++[E0])=true) (hb':belS (np+4) (P++[E0])=true) (hl:belB (np+3) L=true) (hl':belB (np+4) L=true)
  (hy0:∀ (x:List UInt8) (s2:Su) (n2 e2:Bool) (q:Nat),s2.m.length=32→APure cx 26 [.agg (suC p0.s true true),.str x] (.tup [.agg (suC s2 n2 e2),.int .i64 0]) →
   AYield cx (np+2) [.str x] ((P++[E0,.cells zeroC 45,L])++[.grow q 1 9]) (.bool true) ((P++[E0,.cells (suC s2 n2 e2) 45,L])++[.grow q 1 9]))
  (hyS:∀ (x:List UInt8) (s1 s2:Su) (n1 e1 n2 e2:Bool) (q:Nat),s1.m.length=32→s2.m.length=32→APure cx 26 [.agg (suC s1 n1 e1),.str x] (.tup [.agg (suC s2 n2 e2),.int .i64 0]) →
   AYield cx (np+2) [.str x] ((P++[E0,.cells (suC s1 n1 e1) 45,L])++[.grow q 1 9]) (.bool true) ((P++[E0,.cells (suC s2 n2 e2) 45,L])++[.grow q 1 9])) :
  ACall cx 60 [.yld (np+2),.cptr (suC s nd ne)] (P++[E0,.cells zeroC 45,L]) (.tup []) (P++[E0,.cells (suC s s.d.isEmpty s.e.isEmpty) 45,L]):=by
 have hok:=sls_ok hs hm
 have hlen:(linesL s).length=(sls s).length:=by rw [← sls_text];simp
 have hln:(sls s).length=3+s.d.length+s.e.length:=by simp [sls];omega
 have hbel:∀ n k,belS n (P++[E0])=true→belB n L=true→belS n (P++[E0,.cells (mkC s k) 45,L])=true:=fun n k h1 h2=>by
  rw [show P++[E0,.cells (mkC s k) 45,L]=(P++[E0])++[.cells (mkC s k) 45,L] by simp,belS_app,h1]
  show (true&&(belB n (.cells (mkC s k) _)&&(belB n L&&true)))=true
  rw [h2,show belB n (.cells (mkC s k) 45)=true from mkC_bel s k n]
  rfl
 have hend:mkC s (linesL s).length=suC s s.d.isEmpty s.e.isEmpty:=by
  unfold mkC
  rw [if_neg (by omega),hlen,mkS_all s hm]
 rw [← hend]
 refine script_Lines1 s hs hm nd ne (np+2) (np+3) (by omega) (fun k=>P++[E0,.cells (mkC s k) 45,L]) _ (linesL s).length (by simp [hP]) (hbel _ 0 hb' hl') (by simp [hP]) (hbel _ _ hb hl) (Nat.le_refl _) (fun k hk=>?_) (.inl ⟨rfl,rfl⟩)
 have hk':k<(sls s).length:=by omega
 have hx:(linesL s).getD k []=(sls s)[k].text:=by
  simp only [List.getD,hk,List.getElem?_eq_getElem,Option.getD_some]
  simp only [← sls_text,List.getElem_map]
 have hyk:=hok _ (List.getElem_mem hk')
 obtain ⟨a1,a2,a3⟩:=mkS_len s hok k (by omega)
 obtain ⟨b1,b2,b3⟩:=mkS_len s hok (k+1) (by omega)
 have hll:(sls s)[k].text.length≤200:=by
  rw [← hx]
  simp only [List.getD,hk,List.getElem?_eq_getElem,Option.getD_some]
  exact linesL_len s hs hm _ (List.getElem_mem hk)
 have hT:=script_Take (sls s)[k].text (by omega) (mkS s k) a3 (mkS s k).d.isEmpty (mkS s k).e.isEmpty (fun h=>List.isEmpty_iff.1 h) (fun h=>List.isEmpty_iff.1 h) (by omega) (by omega) (sls s)[k] ⟨hyk,rfl⟩
 rw [app_nd,app_ne,← mkS_succ s k hk'] at hT
 rw [hx]
 have e2:mkC s (k+1)=suC (mkS s (k+1)) (mkS s (k+1)).d.isEmpty (mkS s (k+1)).e.isEmpty:=if_neg (by omega)
 simp only [e2]
 by_cases h0:k=0
 ·subst h0
  exact hy0 _ _ _ _ _ b3 hT
 ·have e1:mkC s k=suC (mkS s k) (mkS s k).d.isEmpty (mkS s k).e.isEmpty:=if_neg h0
  simp only [e1]
  exact hyS _ _ _ _ _ _ _ _ a3 b3 hT
end
end Go.Am
end
section
namespace Go.Am
open Go Go.Proofs
set_option maxHeartbeats 8000000
set_option maxRecDepth 100000
theorem linesL_eq (s:Su):linesL s=numT GRAN [s.g.toNat]::modeT s.i::digT MASTER s.m::(s.d.map (digT DRAW)++s.e.map entT):=by
 unfold linesL linesA
 simp
structure Inv3 (p:Ps) (L:List (List UInt8)):Prop where
 g:1≤p.s.g∧p.s.g≤4096
 r:2≤p.rank
 e:p.rank≤3→p.s.e=[]
 l:p.rank≤4→p.l=[]
 t:linesL p.s++p.l.map lineS=L
theorem inv3_step {p p':Ps} {L:List (List UInt8)} {n:Nat} {x:List UInt8} (h:Inv3 p L) (hn:3≤n) (hs:stepP n p x=some p'):Inv3 p' (L++[x]):=by
 unfold stepP at hs
 rcases slOf_cases x with ⟨y,hy,e⟩|⟨_,e⟩
 ·rw [e] at hs
  simp only [stepW] at hs
  split at hs
  ·cases hs
  case isFalse hb =>
   split at hs
   ·obtain rfl:=Option.some.inj hs
    unfold Bad at hb
    obtain ⟨_,rfl⟩:=hy
    cases y with
    |gran n=>simp only [Sl.rank] at hb;omega
    |mode b=>simp only [Sl.rank] at hb;omega
    |master m=>simp only [Sl.rank] at hb;omega
    |draw m =>
     simp only [Sl.rank] at hb
     have he:=h.e (by omega)
     have hl:=h.l (by omega)
     refine ⟨h.g,by simp [Sl.rank],fun _=>he,fun _=>hl,?_⟩
     rw [← h.t,linesL_eq,linesL_eq]
     simp only [Sl.app,he,hl]
     simp [Sl.text]
    |ent w =>
     simp only [Sl.rank] at hb
     have hl:=h.l (by omega)
     refine ⟨h.g,by simp [Sl.rank],fun k=>by simp [Sl.rank] at k,fun _=>hl,?_⟩
     rw [← h.t,linesL_eq,linesL_eq]
     simp only [Sl.app,hl]
     simp [Sl.text]
   ·cases hs
 ·rw [e] at hs
  simp only [stepW] at hs
  split at hs
  ·cases hs
  ·rcases stOf_cases x with ⟨st,hst,e2⟩|⟨_,e2⟩
   ·rw [e2] at hs
    simp only at hs
    split at hs
    ·obtain rfl:=Option.some.inj hs
     refine ⟨h.g,by simp,fun k=>by simp at k,fun k=>by simp at k,?_⟩
     rw [← h.t]
     simp [hst.2.2]
    ·cases hs
   ·rw [e2] at hs;cases hs
theorem step_low {n:Nat} {p p':Ps} {x:List UInt8} (hn:n<3) (hs:stepP n p x=some p'):∃ y,IsSl x y∧y.rank=n∧p'=⟨y.app p.s,p.l,y.rank⟩:=by
 unfold stepP at hs
 rcases slOf_cases x with ⟨y,hy,e⟩|⟨_,e⟩
 ·rw [e] at hs
  simp only [stepW] at hs
  split at hs
  ·cases hs
  case isFalse hb =>
   split at hs
   ·obtain rfl:=Option.some.inj hs
    unfold Bad at hb
    exact ⟨y,hy,by omega,rfl⟩
   ·cases hs
 ·rw [e] at hs
  simp only [stepW,if_pos hn] at hs
  cases hs
theorem inv3_first {a b c:List UInt8} {p:Ps} (h:runP 0 p0 [a,b,c]=some p):Inv3 p [a,b,c]:=by
 simp only [runP] at h
 cases h1:stepP 0 p0 a with
 |none=>rw [h1] at h;cases h
 |some q1 =>
  rw [h1] at h
  simp only [Option.bind_some] at h
  cases h2:stepP (0+1) q1 b with
  |none=>rw [h2] at h;cases h
  |some q2 =>
   rw [h2] at h
   simp only [Option.bind_some] at h
   cases h3:stepP (0+1+1) q2 c with
   |none=>rw [h3] at h;cases h
   |some q3 =>
    rw [h3] at h
    obtain rfl:=Option.some.inj h
    obtain ⟨y1,⟨o1,rfl⟩,r1,rfl⟩:=step_low (by decide) h1
    obtain ⟨y2,⟨o2,rfl⟩,r2,rfl⟩:=step_low (by decide) h2
    obtain ⟨y3,⟨o3,rfl⟩,r3,rfl⟩:=step_low (by decide) h3
    cases y1 with
    |gran w =>
     cases y2 with
     |mode i =>
      cases y3 with
      |master m =>
       have o1:1≤w∧w≤4096:=o1
       refine ⟨by simp [Sl.app,p0];omega,by simp [Sl.rank],fun _=>rfl,fun _=>rfl,?_⟩
       rw [linesL_eq]
       simp [Sl.app,p0,Sl.text]
      |gran _=>simp [Sl.rank] at r3
      |mode _=>simp [Sl.rank] at r3
      |draw _=>simp [Sl.rank] at r3
      |ent _=>simp [Sl.rank] at r3
     |gran _=>simp [Sl.rank] at r2
     |master _=>simp [Sl.rank] at r2
     |draw _=>simp [Sl.rank] at r2
     |ent _=>simp [Sl.rank] at r2
    |mode _=>simp [Sl.rank] at r1
    |master _=>simp [Sl.rank] at r1
    |draw _=>simp [Sl.rank] at r1
    |ent _=>simp [Sl.rank] at r1
theorem inv3_run:∀ (B A:List (List UInt8)) (n:Nat) (p q:Ps),3≤n→Inv3 p A→runP n p B=some q→Inv3 q (A++B)
 |[],A,n,p,q,_,h,hr=>by
  obtain rfl:=Option.some.inj hr
  simpa using h
 |x::B,A,n,p,q,h3,h,hr=>by
  simp only [runP] at hr
  cases hs:stepP n p x with
  |none=>rw [hs] at hr;cases hr
  |some p' =>
   rw [hs] at hr
   simp only [Option.bind_some] at hr
   have:=inv3_run B (A++[x]) (n+1) p' q (by omega) (inv3_step h h3 hs) hr
   simpa using this
theorem read_lines {L:List (List UInt8)} {p:Ps} (h:preP L L.length=some p) (h3:3≤L.length):MaySu p.s∧(∀ x∈p.l,MayS x∧x.Ok)∧linesL p.s++p.l.map lineS=L:=by
 have hp:=(preP_ok h).1
 rw [preP_all] at h
 rcases L with _|⟨a,_|⟨b,_|⟨c,L⟩⟩⟩
 ·simp at h3
 ·simp at h3
 ·simp at h3
 ·rw [show a::b::c::L=[a,b,c]++L from rfl,runP_app] at h
  cases hq:runP 0 p0 [a,b,c] with
  |none=>rw [hq] at h;cases h
  |some q =>
   rw [hq] at h
   simp only [Option.bind_some,List.length_cons,List.length_nil] at h
   have k:=inv3_run L [a,b,c] _ q p (by omega) (inv3_first hq) h
   exact ⟨⟨k.g,hp.d4,hp.e4⟩,hp.st,k.t⟩
theorem txt_jn (L:List (List UInt8)):txt L=jn L []:=by simp [txt,jn]
theorem scT_jn (s:Su) (l:List Sp):scT s (stl l)=jn (linesL s++l.map lineS) []:=by
 unfold scT
 rw [← txt_app,txt_jn]
 congr 2
 simp [stl]
end Go.Am
end
