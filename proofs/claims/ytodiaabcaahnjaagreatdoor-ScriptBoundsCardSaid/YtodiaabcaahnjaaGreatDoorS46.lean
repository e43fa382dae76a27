/- Scripts' texts and what is read of them: plain laws. -/
import Derived.Test.YtodiaabcaahnjaaGreatDoorS36
import Derived.Test.YtodiaabcaahnjaaGreatDoorS21
import Derived.Test.YtodiaabcaahnjaaGreatDoorS08
import Derived.Test.YtodiaabcaahnjaaGreatDoorS12
set_option linter.unusedVariables false
set_option linter.unusedSimpArgs false
section
namespace Go.Am
open Go Go.Proofs
set_option maxHeartbeats 8000000
set_option maxRecDepth 100000
noncomputable def runP:Nat→Ps→List (List UInt8)→Option Ps
 |_,p,[]=>some p
 |n,p,x::L=>(stepP n p x).bind fun q=>runP (n+1) q L
theorem runP_app:∀ (A B:List (List UInt8)) (n:Nat) (p:Ps),runP n p (A++B)=(runP n p A).bind fun q=>runP (n+A.length) q B
 |[],_,_,_=>rfl
 |x::A,B,n,p=>by
  simp only [List.cons_append,runP,List.length_cons]
  cases stepP n p x with
  |none=>rfl
  |some q =>
   simp only [Option.bind_some]
   rw [runP_app A B (n+1) q]
   rw [show n+1+A.length=n+(A.length+1) by omega]
theorem preP_run (L:List (List UInt8)):∀ k,k≤L.length→preP L k=runP 0 p0 (L.take k)
 |0,_=>rfl
 |k+1,h=>by
  have hk:k<L.length:=by omega
  rw [List.take_succ_eq_append_getElem hk,runP_app,← preP_run L k (by omega)]
  show (preP L k).bind _=_
  cases preP L k with
  |none=>rfl
  |some p =>
   simp only [Option.bind_some,runP,List.length_take]
   rw [Nat.min_eq_left (by omega),Nat.zero_add]
   simp only [List.getD,List.getElem?_eq_getElem hk,Option.getD_some]
   cases stepP k p L[k]<;>rfl
theorem preP_all (L:List (List UInt8)):preP L L.length=runP 0 p0 L:=by rw [preP_run L L.length (Nat.le_refl _),List.take_length]
theorem sl_head {l:List UInt8} {x:Sl} (h:IsSl l x):(parts l [32]).headD []=x.word:=by
 obtain ⟨_,rfl⟩:=h
 cases x with
 |gran n=>simp only [Sl.text,numT_one];rw [parts_hit 32 _ _ (by decide)];rfl
 |mode b=>simp only [Sl.text];rw [parts_miss 32 _ (modeT_no b)];rfl
 |master m=>show (parts (MASTER++32::hexl m) [32]).headD []=_;rw [parts_hit 32 _ _ (by decide)];rfl
 |draw m=>show (parts (DRAW++32::hexl m) [32]).headD []=_;rw [parts_hit 32 _ _ (by decide)];rfl
 |ent n=>simp only [Sl.text,entT,numT_one];rw [parts_hit 32 _ _ (by decide)];rfl
theorem step_head {s:List UInt8} {st:Sp} (h:IsStep s st):(∃ op:Int,(1≤op∧op≤21)∧(parts s [32]).headD []=cnm op)∨(parts s [32]).headD []=LOAD∨(parts s [32]).headD []=STORE∨(parts s [32]).headD []=VERIFY:=by
 by_cases h1:st.k=1
 ·obtain ⟨hc,_⟩:=step_call h h1
  exact .inl ⟨st.op,hc.1.1,by rw [call_parts hc];rfl⟩
 ·right
  obtain ⟨hm,hok,rfl⟩:=h
  obtain ⟨k,op',xs',a,w,b⟩:=st
  rcases hm with hm|⟨_,h4⟩
  ·exact absurd hm.1 h1
  ·simp only at h4
   rcases h4 with ⟨rfl,_,_⟩|⟨rfl,_⟩|⟨rfl,_,_,_⟩
   ·have e:lineS ⟨2,op',xs',a,w,b⟩=LOAD++32::Lib.decDigits a:=by simp [lineS,numT,LOAD]
    left;rw [e,parts_hit 32 _ _ (by decide)];rfl
   ·have e:lineS ⟨3,op',xs',a,w,b⟩=STORE++32::(Lib.decDigits a++32::Lib.decDigits w):=by simp [lineS,numT,STORE]
    right;left;rw [e,parts_hit 32 _ _ (by decide)];rfl
   ·right;right
    by_cases hb0:b=[]
    ·subst hb0
     have e:lineS ⟨4,op',xs',a,w,[]⟩=VERIFY:=by simp [lineS]
     rw [e,parts_miss 32 _ (by decide)];rfl
    ·have e:lineS ⟨4,op',xs',a,w,b⟩=VERIFY++32::hexl b:=by simp [lineS,hb0]
     rw [e,parts_hit 32 _ _ (by decide)];rfl
theorem word_cnm (x:Sl) {op:Int} (h:1≤op∧op≤21):cnm op≠x.word:=by
 obtain ⟨k,rfl⟩:=Int.eq_ofNat_of_zero_le (show 0≤op by omega)
 have hall:((List.range 22).all fun k=>decide (cnm (k:Nat)≠GRAN)&&decide (cnm (k:Nat)≠modeT true)&&decide (cnm (k:Nat)≠modeT false)&&decide (cnm (k:Nat)≠MASTER)&&decide (cnm (k:Nat)≠DRAW)&&decide (cnm (k:Nat)≠ENTR))=true:=by decide +kernel
 have:=List.all_eq_true.1 hall k (List.mem_range.2 (by omega))
 simp only [Bool.and_eq_true,decide_eq_true_eq] at this
 obtain ⟨⟨⟨⟨⟨a,b⟩,c⟩,d⟩,e⟩,f⟩:=this
 cases x with
 |gran n=>exact a
 |mode v=>cases v;exact c;exact b
 |master m=>exact d
 |draw m=>exact e
 |ent n=>exact f
theorem word_st (x:Sl):x.word≠LOAD∧x.word≠STORE∧x.word≠VERIFY:=by
 cases x with
 |gran n=>exact ⟨show GRAN≠LOAD by decide,show GRAN≠STORE by decide,show GRAN≠VERIFY by decide⟩
 |mode v=>cases v<;>exact ⟨by decide,by decide,by decide⟩
 |master m=>exact ⟨show MASTER≠LOAD by decide,show MASTER≠STORE by decide,show MASTER≠VERIFY by decide⟩
 |draw m=>exact ⟨show DRAW≠LOAD by decide,show DRAW≠STORE by decide,show DRAW≠VERIFY by decide⟩
 |ent n=>exact ⟨show ENTR≠LOAD by decide,show ENTR≠STORE by decide,show ENTR≠VERIFY by decide⟩
theorem step_nosl {l:List UInt8} {st:Sp} (h:IsStep l st):∀ x,¬ IsSl l x:=fun x hx=>by
 have e:=sl_head hx
 obtain ⟨w1,w2,w3⟩:=word_st x
 rcases step_head h with ⟨op,ho,k⟩|k|k|k
 ·exact word_cnm x ho (k.symm.trans e)
 ·exact w1 (e.symm.trans k)
 ·exact w2 (e.symm.trans k)
 ·exact w3 (e.symm.trans k)
theorem step_uniq {l:List UInt8} {st st':Sp} (h:IsStep l st) (h':IsStep l st'):st=st':=by
 by_cases h1:st.k=1
 ·obtain ⟨hc,he⟩:=step_call h h1
  by_cases h1':st'.k=1
  ·obtain ⟨hc',he'⟩:=step_call h' h1'
   obtain ⟨e1,e2⟩:=call_unique hc hc'
   rw [he,he',e1,e2]
  ·exact absurd hc (step_nocall h' h1' _ _)
 ·by_cases h1':st'.k=1
  ·obtain ⟨hc',_⟩:=step_call h' h1'
   exact absurd hc' (step_nocall h h1 _ _)
  ·exact step_unique h h' h1 h1'
theorem stOf_is {l:List UInt8} {st:Sp} (h:IsStep l st):stOf l=some st:=by
 rcases stOf_cases l with ⟨y,hy,e⟩|⟨k,_⟩
 ·rw [e,step_uniq hy h]
 ·exact absurd h (k st)
theorem stepP_sl {n:Nat} {p:Ps} {y:Sl} (hy:y.Ok) (hb:¬ Bad n p.rank y.rank) (h1:(y.app p.s).d.length≤4096) (h2:(y.app p.s).e.length≤4096):stepP n p y.text=some ⟨y.app p.s,p.l,y.rank⟩:=by
 unfold stepP
 rw [slOf_is ⟨hy,rfl⟩]
 simp only [stepW,if_neg hb]
 rw [if_pos ⟨h1,h2⟩]
theorem stepP_st {n:Nat} {p:Ps} {st:Sp} (hm:MayS st) (ho:st.Ok) (h3:3≤n) (hl:p.l.length<65536):stepP n p (lineS st)=some ⟨p.s,p.l++[st],5⟩:=by
 have hs:IsStep (lineS st) st:=⟨hm,ho,rfl⟩
 unfold stepP
 rw [slOf_no (step_nosl hs),stOf_is hs]
 simp only [stepW,if_neg (show ¬ n<3 by omega)]
 rw [if_pos hl]
theorem run_draws:∀ (D:List (List UInt8)) (n:Nat) (p:Ps),3≤n→p.rank≤3→(∀ x∈D,x.length=32)→p.s.d.length+D.length≤4096→p.s.e.length≤4096 →
  ∃ r,r≤3∧runP n p (D.map (digT DRAW))=some ⟨{ p.s with d:=p.s.d++D },p.l,r⟩
 |[],n,p,_,h,_,_,_=>⟨p.rank,h,by simp [runP]⟩
 |x::D,n,p,h3,hr,hD,hl,he=>by
  have hx:=hD x (List.mem_cons_self ..)
  have hst:=stepP_sl (n:=n) (p:=p) (y:=.draw x) hx (by unfold Bad;simp only [Sl.rank];omega) (by simp [Sl.app] at hl ⊢;omega) (by simpa [Sl.app] using he)
  obtain ⟨r,hr',e⟩:=run_draws D (n+1) ⟨{ p.s with d:=p.s.d++[x] },p.l,3⟩ (by omega) (Nat.le_refl _) (fun y hy=>hD y (List.mem_cons_of_mem _ hy)) (by simp at hl ⊢;omega) he
  refine ⟨r,hr',?_⟩
  simp only [List.map_cons,runP]
  rw [show digT DRAW x=(Sl.draw x).text from rfl,hst]
  simp only [Option.bind_some]
  rw [show (Sl.draw x).app p.s={ p.s with d:=p.s.d++[x] } from rfl,show (Sl.draw x).rank=3 from rfl,e]
  simp
theorem run_ents:∀ (W:List Nat) (n:Nat) (p:Ps),3≤n→p.rank≤4→(∀ x∈W,x<18446744073709551616)→p.s.d.length≤4096→p.s.e.length+W.length≤4096 →
  ∃ r,r≤4∧runP n p (W.map entT)=some ⟨{ p.s with e:=p.s.e++W },p.l,r⟩
 |[],n,p,_,h,_,_,_=>⟨p.rank,h,by simp [runP]⟩
 |x::W,n,p,h3,hr,hD,hl,he=>by
  have hx:=hD x (List.mem_cons_self ..)
  have hst:=stepP_sl (n:=n) (p:=p) (y:=.ent x) hx (by unfold Bad;simp only [Sl.rank];omega) (by simpa [Sl.app] using hl) (by simp [Sl.app] at he ⊢;omega)
  obtain ⟨r,hr',e⟩:=run_ents W (n+1) ⟨{ p.s with e:=p.s.e++[x] },p.l,4⟩ (by omega) (Nat.le_refl _) (fun y hy=>hD y (List.mem_cons_of_mem _ hy)) hl (by simp at he ⊢;omega)
  refine ⟨r,hr',?_⟩
  simp only [List.map_cons,runP]
  rw [show entT x=(Sl.ent x).text from rfl,hst]
  simp only [Option.bind_some]
  rw [show (Sl.ent x).app p.s={ p.s with e:=p.s.e++[x] } from rfl,show (Sl.ent x).rank=4 from rfl,e]
  simp
theorem run_steps:∀ (l:List Sp) (n:Nat) (p:Ps),3≤n→p.rank≤5→(∀ x∈l,MayS x∧x.Ok)→p.l.length+l.length≤65536 →
  ∃ r,r≤5∧runP n p (l.map lineS)=some ⟨p.s,p.l++l,r⟩
 |[],n,p,_,h,_,_=>⟨p.rank,h,by simp [runP]⟩
 |x::l,n,p,h3,hr,hD,hl=>by
  have hx:=hD x (List.mem_cons_self ..)
  have hst:=stepP_st (n:=n) (p:=p) (st:=x) hx.1 hx.2 h3 (by simp at hl;omega)
  obtain ⟨r,hr',e⟩:=run_steps l (n+1) ⟨p.s,p.l++[x],5⟩ (by omega) (Nat.le_refl _) (fun y hy=>hD y (List.mem_cons_of_mem _ hy)) (by simp at hl ⊢;omega)
  refine ⟨r,hr',?_⟩
  simp only [List.map_cons,runP]
  rw [hst]
  simp only [Option.bind_some]
  rw [e]
  simp
theorem run_script (s:Su) (hs:s.Ok) (hm:MaySu s) (l:List Sp) (hl:∀ x∈l,MayS x∧x.Ok) (h6:l.length≤65536):∃ r,runP 0 p0 (linesL s++l.map lineS)=some ⟨s,l,r⟩:=by
 obtain ⟨g,i,m,d,e⟩:=s
 obtain ⟨⟨hg1,hg2⟩,hd,he⟩:=hm
 simp only at hg1 hg2 hd he
 obtain ⟨w,rfl⟩:=Int.eq_ofNat_of_zero_le (show 0≤g by omega)
 have hm32:m.length=32:=hs.m32
 have a1:=stepP_sl (n:=0) (p:=p0) (y:=.gran w) (show 1≤w∧w≤4096 by omega) (by unfold Bad;simp [Sl.rank]) (by simp [Sl.app,p0]) (by simp [Sl.app,p0])
 have a2:=stepP_sl (n:=1) (p:=⟨(Sl.gran w).app p0.s,p0.l,0⟩) (y:=.mode i) trivial (by unfold Bad;simp [Sl.rank]) (by simp [Sl.app,p0]) (by simp [Sl.app,p0])
 have a3:=stepP_sl (n:=2) (p:=⟨(Sl.mode i).app ((Sl.gran w).app p0.s),p0.l,1⟩) (y:=.master m) hm32 (by unfold Bad;simp [Sl.rank]) (by simp [Sl.app,p0]) (by simp [Sl.app,p0])
 obtain ⟨r1,hr1,b1⟩:=run_draws d 3 ⟨⟨(w:Int),i,m,[],[]⟩,[],2⟩ (Nat.le_refl _) (show (2:Nat)≤3 by decide) hs.d32 (by simpa using hd) (by simp)
 obtain ⟨r2,hr2,b2⟩:=run_ents e (3+d.length) ⟨⟨(w:Int),i,m,d,[]⟩,[],r1⟩ (by omega) (by simp only;omega) hs.ew hd (by simpa using he)
 obtain ⟨r3,hr3,b3⟩:=run_steps l (3+d.length+e.length) ⟨⟨(w:Int),i,m,d,e⟩,[],r2⟩ (by omega) (by simp only;omega) hl (by simpa using h6)
 refine ⟨r3,?_⟩
 have hL:linesL ⟨(w:Int),i,m,d,e⟩=[(Sl.gran w).text,(Sl.mode i).text,(Sl.master m).text]++(d.map (digT DRAW)++e.map entT):=by
  unfold linesL linesA
  simp [Sl.text]
 rw [hL,List.append_assoc,List.append_assoc,runP_app]
 have a:runP 0 p0 [(Sl.gran w).text,(Sl.mode i).text,(Sl.master m).text]=some ⟨⟨(w:Int),i,m,[],[]⟩,[],2⟩:=by
  simp only [runP]
  rw [a1]
  simp only [Option.bind_some,Nat.zero_add]
  rw [show (Sl.gran w).rank=0 from rfl,a2]
  simp only [Option.bind_some]
  rw [show (Sl.mode i).rank=1 from rfl,show 1+1=2 from rfl,a3]
  rfl
 rw [a]
 simp only [Option.bind_some,List.length_cons,List.length_nil]
 rw [runP_app,show 0+(0+1+1+1)=3 from rfl,b1]
 simp only [Option.bind_some,List.length_map,List.nil_append]
 rw [runP_app,b2]
 simp only [Option.bind_some,List.length_map,List.nil_append]
 rw [b3]
 simp
end Go.Am
end
section
namespace Go.Am
open Go Go.Proofs
set_option maxHeartbeats 8000000
set_option maxRecDepth 100000
structure Inv3 (p:Ps) (L:List (List UInt8)):Prop where
 g:1≤p.s.g∧p.s.g≤4096
 r:2≤p.rank
 e:p.rank≤3→p.s.e=[]
 l:p.rank≤4→p.l=[]
 t:linesL p.s++p.l.map lineS=L
end Go.Am
end
section
namespace Go.Am
open Go Go.Proofs
set_option maxHeartbeats 8000000
set_option maxRecDepth 100000
section
attribute [local irreducible] aC aL thenQ blockQ scopeQ ALoop AWp
theorem parse_long (s:List UInt8) (h:4194304<s.length) (h2:s.length≤9223372036854775807):APure cx 13 [.str s] (psR 0 3 (psC p0)):=by
 rw [zRes]
 refine pure_fnD cxOk Tryz.func13 (fun _=>false) (fe13.q) (by kernel_rfl) (by dsimp only [Tryz.f13,go_sem,seval,liteO,Option.map,List.map];exact .mk _) ?_
 dsimp only [Tryz.f13,frame0,List.zipIdx,List.map,Nat.reduceAdd]
 try simp only [List.getElem?_toArray,List.getElem?_cons_succ,List.getElem?_cons_zero,Option.bind_some]
 repeat' (first|refine aC_seq ?_|refine aC_reg rfl ?_|refine aC_scope ?_|refine scopeQ_ret ?_|refine aC_ret ?_|refine thenQ_normal ?_|refine thenQ_ret ?_|refine aL_nil ?_|(apply aL_step;(·exact True.intro);(iterate 2 (·simp (disch:=first|omega|(simp only [go_sem];omega)) only [go_sem,seval]<;>with_reducible rfl));(·simp only [go_sem]<;>with_reducible rfl))|(refine aC_condP (by simp (disch:=first|omega|(simp only [go_sem];omega)) only [go_sem,seval]<;>with_reducible rfl) ?_ ?_<;>(intro h;first|(exfalso;omega)|skip))|fail)
 all_goals try (first|exact True.intro|exact not_false|omega|(simp (disch:=first|omega|(simp only [go_sem];omega)) only [go_sem,seval]<;>omega))
 all_goals try (intro _ _ h;exact h.elim)
 all_goals try (simp (disch:=first|omega|(simp only [go_sem];omega)) only [go_sem,seval])
 all_goals try simp [Wk,Wks,Wks_app]
theorem law_wrong25 (s:List UInt8) (n:Nat) (h:APure cx 13 [.str s] (psR n 4 (psC p0))):APure cx 17 [.str s,.int .i64 (n:Nat)] (.bool true):=by
 have q:=law_num25 4
 have hs:=ref_Same p0.s p0.s p0_ok.su p0_ok.su true true true true true true [] [] (fun p hp=>absurd hp (by simp)) (fun p hp=>absurd hp (by simp)) ⟨by simp [p0],by simp [p0],by simp⟩ ⟨by simp [p0],by simp [p0],by simp⟩
 rw [decide_eq_true ⟨rfl,rfl⟩] at hs
 have e:scC p0.s true true [] true=psC p0:=rfl
 rw [e] at hs
 rw [zRes] at h
 have e2:psC p0=(.int .i64 0 :: .bool false::(bl [0,0,0,0,0,0,0,0,0,0,0,0,0,0,0,0,0,0,0,0,0,0,0,0,0,0,0,0,0,0,0,0]++[.sl 32 true [] .any,.sl 1 true [] .any,.sl 11 true [] .any]):List AVal):=rfl
 rw [e2] at hs
 refine pure_fnK cxOk Tryz.func17 (fun _=>false) (fe17.q) (by kernel_rfl) (by dsimp only [Tryz.f17,go_sem,seval,liteO,Option.map,List.map];exact .mk _) ?_
 dsimp only [Tryz.f17,frame0,List.zipIdx,List.map,Nat.reduceAdd]
 try simp only [List.getElem?_toArray,List.getElem?_cons_succ,List.getElem?_cons_zero,Option.bind_some]
 repeat' (first|refine aC_seq ?_|refine aC_reg rfl ?_|refine aC_ret ?_|refine thenQ_normal ?_|refine aL_nil ?_|(apply aL_step;(·exact True.intro);(iterate 2 (·simp (disch:=first|omega|(simp only [go_sem];omega)) only [go_sem,seval,eq_self_iff_true,decide_true,drop32 (m:=[0,0,0,0,0,0,0,0,0,0,0,0,0,0,0,0,0,0,0,0,0,0,0,0,0,0,0,0,0,0,0,0]) rfl,take32 (m:=[0,0,0,0,0,0,0,0,0,0,0,0,0,0,0,0,0,0,0,0,0,0,0,0,0,0,0,0,0,0,0,0]) rfl]<;>with_reducible rfl));(·simp only [go_sem]<;>with_reducible rfl))|(apply aL_pK cxG (h);(iterate 2 (·simp (disch:=first|omega|(simp only [go_sem];omega)) only [go_sem,seval,eq_self_iff_true,decide_true,drop32 (m:=[0,0,0,0,0,0,0,0,0,0,0,0,0,0,0,0,0,0,0,0,0,0,0,0,0,0,0,0,0,0,0,0]) rfl,take32 (m:=[0,0,0,0,0,0,0,0,0,0,0,0,0,0,0,0,0,0,0,0,0,0,0,0,0,0,0,0,0,0,0,0]) rfl]<;>with_reducible rfl));(·simp only [go_sem]<;>with_reducible rfl);(·simp))|(apply aL_pK cxG (q);(iterate 2 (·simp (disch:=first|omega|(simp only [go_sem];omega)) only [go_sem,seval,eq_self_iff_true,decide_true,drop32 (m:=[0,0,0,0,0,0,0,0,0,0,0,0,0,0,0,0,0,0,0,0,0,0,0,0,0,0,0,0,0,0,0,0]) rfl,take32 (m:=[0,0,0,0,0,0,0,0,0,0,0,0,0,0,0,0,0,0,0,0,0,0,0,0,0,0,0,0,0,0,0,0]) rfl]<;>with_reducible rfl));(·simp only [go_sem]<;>with_reducible rfl);(·simp))|(apply aL_pW cxG (hs);(iterate 3 (·simp (disch:=first|omega|(simp only [go_sem];omega)) only [go_sem,seval,eq_self_iff_true,decide_true,drop32 (m:=[0,0,0,0,0,0,0,0,0,0,0,0,0,0,0,0,0,0,0,0,0,0,0,0,0,0,0,0,0,0,0,0]) rfl,take32 (m:=[0,0,0,0,0,0,0,0,0,0,0,0,0,0,0,0,0,0,0,0,0,0,0,0,0,0,0,0,0,0,0,0]) rfl]<;>with_reducible rfl));(·simp only [go_sem]<;>with_reducible rfl);(·simp);(·simp only [go_sem]<;>with_reducible rfl))|fail)
 all_goals try (first|exact True.intro|exact not_false|omega|(simp (disch:=first|omega|(simp only [go_sem];omega)) only [go_sem,seval]<;>omega))
 all_goals clear h q hs
 all_goals try (simp (disch:=first|omega|(simp only [go_sem];omega)) only [go_sem,seval])
 all_goals try simp
 all_goals try (simp [putCells_length])
end
instance (x:Sl):Decidable x.Ok:=by cases x<;>(simp only [Sl.Ok];infer_instance)
def slD (l:List UInt8):Option Sl:=match candS l with
 |some x=>if x.Ok∧x.text=l then some x else none
 |none=>none
theorem slOf_D (l:List UInt8):slOf l=slD l:=by
 unfold slD
 rcases slOf_cases l with ⟨x,hx,e⟩|⟨hno,e⟩
 ·rw [e,sl_cand hx]
  simp only
  rw [if_pos (show x.Ok∧x.text=l from hx)]
 ·rw [e]
  cases hc:candS l with
  |none=>rfl
  |some y =>
   simp only
   rw [if_neg (show ¬ (y.Ok∧y.text=l) from fun h=>hno y h)]
theorem stOf_no {l:List UInt8} (h1:(parts l [32]).headD []≠LOAD) (h2:(parts l [32]).headD []≠STORE) (h3:(parts l [32]).headD []≠VERIFY) (h4:((List.range 21).all fun k=>decide (cnm ((k+1:Nat):Int)≠(parts l [32]).headD []))=true):stOf l=none:=by
 rcases stOf_cases l with ⟨st,hst,_⟩|⟨_,e⟩
 ·exfalso
  rcases step_head hst with ⟨op,ho,k⟩|k|k|k
  ·obtain ⟨n,rfl⟩:=Int.eq_ofNat_of_zero_le (show 0≤op by omega)
   have:=List.all_eq_true.1 h4 (n-1) (List.mem_range.2 (by omega))
   rw [show n-1+1=n by omega] at this
   exact of_decide_eq_true this k.symm
  ·exact h1 k
  ·exact h2 k
  ·exact h3 k
 ·exact e
def HEAD:List UInt8:=[103,114,97,110,117,108,101,115,32,50,10,105,100,101,97,108,10,109,97,115,116,101,114,32]++List.replicate 64 48++[10]
def hdS:Su:=⟨2,true,List.replicate 32 0,[],[]⟩
def hdL:List (List UInt8):=linesL hdS
theorem hd_run:runP 0 p0 hdL=some ⟨hdS,[],2⟩:=by
 have a1:=stepP_sl (n:=0) (p:=p0) (y:=.gran 2) (show 1≤2∧2≤4096 by omega) (by unfold Bad;simp [Sl.rank]) (by simp [Sl.app,p0]) (by simp [Sl.app,p0])
 have a2:=stepP_sl (n:=1) (p:=⟨(Sl.gran 2).app p0.s,p0.l,0⟩) (y:=.mode true) trivial (by unfold Bad;simp [Sl.rank]) (by simp [Sl.app,p0]) (by simp [Sl.app,p0])
 have a3:=stepP_sl (n:=2) (p:=⟨(Sl.mode true).app ((Sl.gran 2).app p0.s),p0.l,1⟩) (y:=.master (List.replicate 32 0)) (show (List.replicate 32 (0:UInt8)).length=32 by simp) (by unfold Bad;simp [Sl.rank]) (by simp [Sl.app,p0]) (by simp [Sl.app,p0])
 have hL:hdL=[(Sl.gran 2).text,(Sl.mode true).text,(Sl.master (List.replicate 32 0)).text]:=by decide +kernel
 rw [hL]
 simp only [runP]
 rw [a1]
 simp only [Option.bind_some,Nat.zero_add]
 rw [show (Sl.gran 2).rank=0 from rfl,a2]
 simp only [Option.bind_some]
 rw [show (Sl.mode true).rank=1 from rfl,show 1+1=2 from rfl,a3]
 rfl
theorem hd_len:hdL.length=3:=by decide +kernel
theorem hd_jn:jn hdL []=HEAD:=by decide +kernel
theorem hd_small:∀ x∈hdL,x.length≤1000∧(10:UInt8) ∉ x:=by
 have:(hdL.all fun x=>decide (x.length≤1000)&&decide ((10:UInt8) ∉ x))=true:=by decide +kernel
 intro x hx
 have:=List.all_eq_true.1 this x hx
 simpa using this
theorem hd_pre (M:List (List UInt8)):preP (hdL++M) 3=some ⟨hdS,[],2⟩:=by
 rw [preP_run _ 3 (by rw [List.length_append,hd_len];omega),List.take_append_of_le_length (by rw [hd_len];omega),List.take_of_length_le (by rw [hd_len];omega)]
 exact hd_run
theorem p_at (M:List (List UInt8)) (rest:List UInt8) (hM:∀ x∈M,x.length≤1000∧(10:UInt8) ∉ x) (hM3:M.length≤100) (hr:rest.length≤1000∧(10:UInt8) ∉ rest):APure cx 13 [.str (HEAD++jn M rest)] (parR (hdL++M) rest):=by
 have hall:∀ x∈hdL++M,x.length≤1000∧(10:UInt8) ∉ x:=fun x hx=>by
  rcases List.mem_append.1 hx with h|h
  ·exact hd_small x h
  ·exact hM x h
 have hj:HEAD++jn M rest=jn (hdL++M) rest:=by
  rw [← hd_jn]
  simp [jn]
 have hlen:∀ (L:List (List UInt8)),(∀ x∈L,x.length≤1000)→(jn L rest).length≤1001*L.length+1000:=by
  intro L
  induction L with
  |nil=>intro _;rw [jn_nil];simp;exact hr.1
  |cons x L ih =>
   intro h
   rw [jn_cons]
   have:=ih fun y hy=>h y (List.mem_cons_of_mem _ hy)
   have:=h x (List.mem_cons_self ..)
   simp only [List.length_append,List.length_cons]
   omega
 have hl:=hlen (hdL++M) fun x hx=>(hall x hx).1
 have e3:(hdL++M).length=3+M.length:=by rw [List.length_append,hd_len]
 rw [← hj,e3] at hl
 exact script_Parse _ (hdL++M) rest (by omega) (fun x hx=>by have:=(hall x hx).1;omega) (fun x hx=>(hall x hx).2) hr.2 hj
theorem w_first (x:List UInt8) (hx:x.length≤1000∧(10:UInt8) ∉ x) (h:stepP 3 ⟨hdS,[],2⟩ x=none):APure cx 13 [.str (HEAD++(x++[10]))] (psR 3 4 (psC p0)):=by
 have k:=p_at [x] [] (fun y hy=>by rw [List.mem_singleton.1 hy];exact hx) (by simp) ⟨by simp,by simp⟩
 have hr:=hd_pre [x]
 have e:=parR_bad (rest:=[]) (L:=hdL++[x]) (k:=3) (by rw [List.length_append,hd_len];simp) hr (by
  rw [show (hdL++[x])[3]'(by rw [List.length_append,hd_len];simp)=x by rw [List.getElem_append_right (by rw [hd_len];omega)];simp [hd_len]]
  exact h)
 rw [e] at k
 have e2:jn [x] []=x++[10]:=by simp [jn]
 rwa [e2] at k
theorem w_second (x y:List UInt8) (hx:x.length≤1000∧(10:UInt8) ∉ x) (hy:y.length≤1000∧(10:UInt8) ∉ y) (q:Ps) (h1:stepP 3 ⟨hdS,[],2⟩ x=some q) (h2:stepP 4 q y=none):APure cx 13 [.str (HEAD++(x++10::(y++[10])))] (psR 4 4 (psC p0)):=by
 have k:=p_at [x,y] [] (fun z hz=>by
  rcases List.mem_cons.1 hz with rfl|hz
  ·exact hx
  ·rw [List.mem_singleton.1 hz];exact hy) (by simp) ⟨by simp,by simp⟩
 have hr:=hd_pre [x,y]
 have g3:(hdL++[x,y])[3]'(by rw [List.length_append,hd_len];simp)=x:=by rw [List.getElem_append_right (by rw [hd_len];omega)];simp [hd_len]
 have g4:(hdL++[x,y])[4]'(by rw [List.length_append,hd_len];simp)=y:=by rw [List.getElem_append_right (by rw [hd_len];omega)];simp [hd_len]
 have hr4:=preP_succ hr (show 3<(hdL++[x,y]).length by rw [List.length_append,hd_len];simp)
 rw [g3,h1] at hr4
 have e:=parR_bad (rest:=[]) (L:=hdL++[x,y]) (k:=4) (by rw [List.length_append,hd_len];simp) hr4 (by rw [g4];exact h2)
 rw [e] at k
 have e2:jn [x,y] []=x++10::(y++[10]):=by simp [jn]
 rwa [e2] at k
theorem w_rest (x:List UInt8) (hx:x.length≤1000∧(10:UInt8) ∉ x) (hne:x≠[]):APure cx 13 [.str (HEAD++x)] (psR 3 4 (psC p0)):=by
 have k:=p_at [] x (by simp) (by simp) hx
 have hr:=hd_pre []
 rw [List.append_nil] at hr k
 have e:=parR_end (rest:=x) (L:=hdL) (by rw [hd_len];exact hr) (.inl hne)
 rw [e,hd_len] at k
 exact k
theorem w_zero (x:List UInt8) (hx:x.length≤1000∧(10:UInt8) ∉ x) (h:stepP 0 p0 x=none):APure cx 13 [.str (x++[10])] (psR 0 4 (psC p0)):=by
 have k:=script_Parse (x++[10]) [x] [] (by simp;omega) (fun y hy=>by rw [List.mem_singleton.1 hy];omega) (fun y hy=>by rw [List.mem_singleton.1 hy];exact hx.2) (by simp) (by simp [jn])
 rwa [parR_bad (rest:=[]) (L:=[x]) (k:=0) (by simp) rfl h] at k
theorem w_none:APure cx 13 [.str []] (psR 0 4 (psC p0)):=by
 have k:=script_Parse [] [] [] (by simp) (by simp) (by simp) (by simp) rfl
 rwa [parR_end (rest:=[]) (L:=[]) rfl (.inr (by simp))] at k
theorem step_bad {n:Nat} {p:Ps} {x:List UInt8} {y:Sl} (h:slD x=some y) (hb:Bad n p.rank y.rank):stepP n p x=none:=by
 unfold stepP
 rw [slOf_D,h]
 simp only [stepW,if_pos hb]
theorem step_low0 {n:Nat} {p:Ps} {x:List UInt8} (h:slD x=none) (hn:n<3):stepP n p x=none:=by
 unfold stepP
 rw [slOf_D,h]
 simp only [stepW,if_pos hn]
theorem step_no {n:Nat} {p:Ps} {x:List UInt8} (h:slD x=none) (h2:stOf x=none):stepP n p x=none:=by
 unfold stepP
 rw [slOf_D,h,h2]
 simp only [stepW]
 split<;>rfl
end Go.Am
end
section
namespace Go.Am
open Go Go.Proofs
set_option maxHeartbeats 8000000
set_option maxRecDepth 100000
theorem view_sl {G:Nat→Option AVal} {E E':Env} (hE:Wf G E) (hw:E'.w=E.w) (hs:Sees E E') (hb:∀ i b o:Nat,E.mu[i]? = some (some b)→(∃ x,E.S[i]? = some x)→E'.Im b o)
  {i off n cap sz:Nat} {x:Value} {bs xs:List AVal} {t:TypeId} (h:R E (.view i off n cap) x) (hcap:cap≤maxLen) (hS:E.S[i]? = some (.cells bs t)) (hn:xs.length=n) (hsz:∀ k (hk:k<xs.length),(xs[k]).cells.length=sz) (hl:off+n*sz≤bs.length)
  (hel:∀ k (hk:k<xs.length) j (hj:j<(xs[k]).cells.length),bs[off+(k*sz+j)]? = some ((xs[k]).cells[j])) (hcl:∀ k (hk:k<xs.length) j (hj:j<(xs[k]).cells.length),Closed ((xs[k]).cells[j])):R E' (.sl sz false xs .any) x:=by
 cases h with
 |view _ _ _ _ b hnc hm hbx =>
  obtain ⟨b',arr,h1,h2,h3,h4⟩:=hE.entry i _ hS
  obtain rfl:b'=b:=by rw [hm] at h1;injection h1 with h1;injection h1 with h1;exact h1.symm
  refine .sl sz xs .any _ n cap (fun j=>arr.getD (off+j) undef) hn.symm hnc hcap (fun j hj=>?_) hsz (fun k hk j hj=>?_) trivial
  ·refine ⟨rfl,?_,hb i b' _ hm ⟨_,hS⟩,(h4 (off+j) (by omega)).2⟩
   rw [add_form _ _ rfl,hw]
   have:off+j<arr.size:=by omega
   simp [World.cell?,h2,Array.getD,this]
  ·obtain ⟨hlt,e⟩:=List.getElem?_eq_some_iff.1 (hel k hk j hj)
   rw [← e]
   exact Closed.move hs (h4 _ hlt).1 (by rw [e];exact hcl k hk j hj)
theorem APure.lendA {C:Cx} (hG:GClosed C) {f:FuncId} {A:List AVal} {i off n cap sz:Nat} {xs bs:List AVal} {t:TypeId} {r:AVal} (h:APure C f [.agg (A++[.sl sz false xs .any])] r) {S:St} (hS:S[i]? = some (.cells bs t)) (hcap:cap≤maxLen) (hn:xs.length=n)
  (hsz:∀ k (hk:k<xs.length),(xs[k]).cells.length=sz) (hl:off+n*sz≤bs.length) (hel:∀ k (hk:k<xs.length) j (hj:j<(xs[k]).cells.length),bs[off+(k*sz+j)]? = some ((xs[k]).cells[j]))
  (hcl:∀ k (hk:k<xs.length) j (hj:j<(xs[k]).cells.length),Closed ((xs[k]).cells[j])) (hA:∀ a∈A,Closed a) (hp:Plain r):ACall C f [.agg (A++[.view i off n cap])] S r S:=by
 refine ⟨h.callable,fun E vs hE hES hvs hr=>?_⟩
 subst hES
 have hsee:Sees E (env0 E.w fun _ _=>True):=⟨fun b o hi=>⟨⟨hi.1,.inl ⟨hi.1,trivial⟩⟩,rfl⟩⟩
 have hE0:Wf C.G (env0 E.w fun _ _=>True) :=
  ⟨rfl,fun i j b h=>by simp [env0] at h,fun i b h=>by simp [env0] at h,Nat.le_refl _,fun b o _ _ i=>by simp [env0],fun i x h=>by simp [env0] at h,
   fun g v hg=>⟨(hG g v hg).move hsee (hE.glob g v hg).r,fun i=>by simp [env0],(hE.glob g v hg).obj⟩⟩
 refine (h.ok E.w (fun _ _=>True) vs hE0 (by rw [hvs];rfl) (fun j hj=>?_)).mono ?_
 ·obtain rfl:j=0:=by simpa using hj
  have k:=hr 0 (by simp)
  simp only [List.getElem_cons_zero] at k ⊢
  generalize vs.getD 0 undef=x at *
  cases k with
  |agg _ vv h1 hx =>
   refine .agg _ vv (by simpa using h1) (fun j hj=>?_)
   by_cases hlt:j<A.length
   ·have:=hx j (by simp;omega)
    rw [List.getElem_append_left hlt] at this ⊢
    exact Closed.move hsee this (hA _ (List.getElem_mem hlt))
   ·have e:j=A.length:=by simp at hj;omega
    subst e
    have:=hx A.length (by simp)
    simp only [List.getElem_append_right (Nat.le_refl _),Nat.sub_self,List.getElem_cons_zero] at this ⊢
    exact view_sl (E':=env0 E.w fun _ _=>True) hE rfl hsee (fun i b o hm _=>⟨hE.lt i b hm,.inl ⟨hE.lt i b hm,trivial⟩⟩) this hcap hS hn hsz hl hel hcl
 ·rintro e w' ⟨v,h1,h2,h3⟩
  obtain ⟨k1,k2⟩:=env_grown hE h2
  exact ⟨_,v,h1,rfl,k2,k1,rfl,hp.move h3⟩
theorem flat_len (c:List AVal) (sz:Nat) (hc:c.length=sz):∀ n,((List.replicate n c).flatten).length=n*sz
 |0=>by simp
 |n+1=>by
  rw [List.replicate_succ,List.flatten_cons,List.length_append,flat_len c sz hc n,hc,Nat.succ_mul]
  omega
theorem flat_get (c:List AVal) (sz:Nat) (hc:c.length=sz):∀ n k j,k<n→j<sz→((List.replicate n c).flatten)[k*sz+j]? = c[j]?
 |0,k,j,h,_=>absurd h (Nat.not_lt_zero _)
 |n+1,0,j,h,hj=>by
  rw [List.replicate_succ,List.flatten_cons,Nat.zero_mul,Nat.zero_add,List.getElem?_append_left (by omega)]
 |n+1,k+1,j,h,hj=>by
  rw [List.replicate_succ,List.flatten_cons,List.getElem?_append_right (by rw [hc,Nat.succ_mul];omega),← flat_get c sz hc n k j (by omega) hj]
  congr 1
  rw [hc,Nat.succ_mul]
  omega
def bxS (c0 c2:List AVal) (n k:Nat):List AVal:=(List.replicate k c2).flatten++(List.replicate (n-k) c0).flatten
theorem bxS_zero (c0 c2:List AVal) (n:Nat):bxS c0 c2 n 0=(List.replicate n c0).flatten:=by simp [bxS]
theorem bxS_all (c0 c2:List AVal) (n:Nat):bxS c0 c2 n n=(List.replicate n c2).flatten:=by simp [bxS]
theorem bxS_len {c0 c2:List AVal} {sz:Nat} (h0:c0.length=sz) (h2:c2.length=sz) (n k:Nat) (hk:k≤n):(bxS c0 c2 n k).length=n*sz:=by
 unfold bxS
 rw [List.length_append,flat_len c2 sz h2,flat_len c0 sz h0,← Nat.add_mul]
 congr 1
 omega
theorem bxS_put {c0 c2:List AVal} {sz:Nat} (h0:c0.length=sz) (h2:c2.length=sz) (n k:Nat) (hk:k<n):putCells (bxS c0 c2 n k) (k*sz) c2=bxS c0 c2 n (k+1):=by
 have hl:=bxS_len h0 h2 n k (by omega)
 have hkn:k*sz+sz≤n*sz:=by
  have:=Nat.mul_le_mul_right sz (show k+1≤n by omega)
  rw [Nat.succ_mul] at this
  exact this
 rw [putCells_eq _ _ _ (by rw [hl,h2];exact hkn),h2]
 have e:bxS c0 c2 n k=(List.replicate k c2).flatten++(c0++(List.replicate (n-(k+1)) c0).flatten):=by
  unfold bxS
  rw [show n-k=(n-(k+1))+1 by omega,List.replicate_succ,List.flatten_cons]
 have hA:=flat_len c2 sz h2 k
 rw [e,List.take_append_of_le_length (by omega),List.take_of_length_le (by omega),List.drop_append,List.drop_eq_nil_of_le (by omega),hA]
 rw [show k*sz+sz-k*sz=c0.length by omega,List.drop_left]
 unfold bxS
 rw [List.replicate_succ',List.flatten_append]
 simp
section
attribute [local irreducible] aC aL thenQ blockQ scopeQ ALoop AWp
variable {C:Cx}
theorem aL_mkv {d:Option Nat} {t:TypeId} {m:Int} {gd:Option (Option Nat × Bool)} {rest:List LO} {Q:Fr→St→Prop} {fr:Fr} {S:St} {e:TypeId} {i j:TI} {fr':Fr} {B:List AVal} {n:Nat}
  (hB:(List.replicate m.toNat j.zero).flatten=B) (hn:m.toNat=n) (hg:wantL gd fr=some true) (hi:C.T t=some i) (hd:i.d = .slice e) (hj:C.T e=some j) (hb:0≤m∧m≤9223372036854775807∧j.bytes*m.toNat≤140737488355328)
  (hf:fr.put d (.view S.length 0 n n)=fr') (k:aL C none rest Q fr' (S++[.cells B e])) :
  aL C none (⟨d,.makeSlice t (.const (.int .i64 m)) (.const (.int .i64 m)),gd⟩::rest) Q fr S:=by
 subst hB hn
 apply aL_step (sd:=_) (r:=.view S.length 0 m.toNat m.toNat) (S':=S++[.cells (List.replicate m.toNat j.zero).flatten e])
 case hop=>trivial
 case hg=>exact hg
 case h =>
  show aMakeSlice C S t (.int .i64 m) (.int .i64 m)=_
  unfold aMakeSlice
  rw [hi]
  simp only [hd]
  rw [hj]
 case hf=>exact hf
 case k=>exact k
 case hs=>refine ⟨?_,?_,hb.1,Int.le_refl _,hb.2.1,hb.2.2⟩<;>first|rfl|trivial
end
def ldS:Sp:=⟨2,0,Z6,0,0,[]⟩
theorem ld_may:MayS ldS:=.inr ⟨⟨rfl,rfl⟩,.inl ⟨rfl,rfl,rfl⟩⟩
theorem ld_ok:ldS.Ok:=⟨rfl,by decide,by decide,by decide,by simp [ldS]⟩
def c0S:List AVal:=[.int .i64 0,.int .i64 0,.int .u64 0,.int .u64 0,.int .u64 0,.int .u64 0,.int .u64 0,.int .u64 0,.int .u64 0,.int .u64 0,.sl 1 true [] .any]
def c2S:List AVal:=[.int .i64 2,.int .i64 0,.int .u64 0,.int .u64 0,.int .u64 0,.int .u64 0,.int .u64 0,.int .u64 0,.int .u64 0,.int .u64 0,.sl 1 true [] .any]
theorem c2_eq:spC ldS true .any=c2S:=rfl
def oneS:Su:=⟨1,false,List.replicate 32 0,[],[]⟩
theorem one_ok:oneS.Ok:=⟨by simp [oneS],by simp [oneS],by simp [oneS]⟩
theorem one_may:MaySu oneS:=⟨by simp [oneS],by simp [oneS],by simp [oneS]⟩
def lds (n:Nat):List (Sp × Bool):=List.replicate n (ldS,true)
theorem lds_mem {n:Nat}:∀ p∈lds n,p.1=ldS:=fun p hp=>by rw [List.eq_of_mem_replicate hp]
theorem sts_lds (n:Nat):sts (lds n)=List.replicate n (.agg c2S):=by
 unfold sts lds
 rw [List.map_replicate,c2_eq]
theorem text_lend {n k off:Nat} {r:AVal} (hT:APure cx 16 [.agg (scC oneS true true (lds k) false)] r) (hp:Plain r) (hk:k≤65537) (hoff:off*11+k*11≤n*11) {S:St} (hS:S[1]? = some (.cells ((List.replicate n c2S).flatten) 31)) :
  ACall cx 16 [.agg (.int .i64 1 :: .bool false::(bl [0,0,0,0,0,0,0,0,0,0,0,0,0,0,0,0,0,0,0,0,0,0,0,0,0,0,0,0,0,0,0,0]++[.sl 1 true [] .any,.sl 1 true [] .any,.view 1 (off*11) k k]))] S r S:=by
 have h1:APure cx 16 [.agg ((.int .i64 1 :: .bool false::(bl [0,0,0,0,0,0,0,0,0,0,0,0,0,0,0,0,0,0,0,0,0,0,0,0,0,0,0,0,0,0,0,0]++[.sl 1 true [] .any,.sl 1 true [] .any]))++[.sl 11 false (sts (lds k)) .any])] r:=by
  refine hT.wk ?_ (Wk_refl r)
  have e:scC oneS true true (lds k) false = .int .i64 1 :: .bool false::(bl [0,0,0,0,0,0,0,0,0,0,0,0,0,0,0,0,0,0,0,0,0,0,0,0,0,0,0,0,0,0,0,0]++[.sl 32 true [] .any,.sl 1 true [] .any,.sl 11 false (sts (lds k)) .any]):=rfl
  rw [e]
  simp [Wk,Wks,Wks_app]
 have hl:(sts (lds k)).length=k:=by rw [length_sts];simp [lds]
 have hxk:∀ m (hm:m<(sts (lds k)).length),(sts (lds k))[m] = .agg c2S:=fun m hm=>by
  simp only [sts_lds,List.getElem_replicate]
 have:=APure.lendA cxG h1 (S:=S) (i:=1) (off:=off*11) (n:=k) (cap:=k) hS (by unfold maxLen;omega) hl (fun m hm=>by rw [hxk m hm];rfl) (by rw [flat_len c2S 11 rfl];exact hoff)
  (fun m hm j hj=>by
   have hj':j<11:=by rw [hxk m hm] at hj;exact hj
   rw [← Nat.add_assoc,← Nat.add_mul,flat_get c2S 11 rfl n (off+m) j (by rw [hl] at hm;omega) hj']
   have:((sts (lds k))[m].cells)[j]? = c2S[j]?:=by rw [hxk m hm];rfl
   rw [← this,List.getElem?_eq_getElem hj])
  (fun m hm j hj=>by
   have hc:∀ x∈c2S,Closed x:=by simp [c2S]
   have hq:(sts (lds k))[m].cells=c2S:=by rw [hxk m hm];rfl
   have hx:∀ x∈(sts (lds k))[m].cells,Closed x:=by rw [hq];exact hc
   exact hx _ (List.getElem_mem hj))
  (by simp) hp
 simpa using this
end Go.Am
end
section
namespace Go.Am
open Go Go.Proofs
set_option maxHeartbeats 8000000
set_option maxRecDepth 100000
def ld8:Sp:=⟨2,0,Z6,8,0,[]⟩
theorem ld8_may:MayS ld8:=.inr ⟨⟨rfl,rfl⟩,.inl ⟨rfl,rfl,rfl⟩⟩
theorem ld8_ok:ld8.Ok:=⟨rfl,by decide,by decide,by decide,by simp [ld8]⟩
theorem ld8_line:lineS ld8=[108,111,97,100,32,56]:=by decide +kernel
theorem st_load8:stepP 3 ⟨hdS,[],2⟩ [108,111,97,100,32,56]=some ⟨hdS,[ld8],5⟩:=by
 rw [← ld8_line]
 exact stepP_st ld8_may ld8_ok (by decide) (by decide)
theorem st_ent5:stepP 3 ⟨hdS,[],2⟩ [101,110,116,114,111,112,121,32,53]=some ⟨{ hdS with e:=[5] },[],4⟩:=by
 have:=stepP_sl (n:=3) (p:=⟨hdS,[],2⟩) (y:=.ent 5) (show 5<18446744073709551616 by decide) (by decide) (by decide) (by decide)
 rw [show (Sl.ent 5).text=[101,110,116,114,111,112,121,32,53] by decide +kernel] at this
 exact this
theorem t_w1:APure cx 17 [.str [103,114,97,110,117,108,101,115,32,50,10,105,100,101,97,108,10,109,97,115,116,101,114,32,48,48,48,48,48,48,48,48,48,48,48,48,48,48,48,48,48,48,48,48,48,48,48,48,48,48,48,48,48,48,48,48,48,48,48,48,48,48,48,48,48,48,48,48,48,48,48,48,48,48,48,48,48,48,48,48,48,48,48,48,48,48,48,48,10,108,111,97,100,32,56,10,101,110,116,114,111,112,121,32,53,10],.int .i64 4] (.bool true):=by
 have h:=law_wrong25 _ 4 (w_second [108,111,97,100,32,56] [101,110,116,114,111,112,121,32,53] ⟨by decide +kernel,by decide +kernel⟩ ⟨by decide +kernel,by decide +kernel⟩ ⟨hdS,[ld8],5⟩ st_load8 (step_bad (y:=.ent 5) (by decide +kernel) (by decide)))
 rw [show HEAD++([108,111,97,100,32,56]++10::([101,110,116,114,111,112,121,32,53]++[10]))=[103,114,97,110,117,108,101,115,32,50,10,105,100,101,97,108,10,109,97,115,116,101,114,32,48,48,48,48,48,48,48,48,48,48,48,48,48,48,48,48,48,48,48,48,48,48,48,48,48,48,48,48,48,48,48,48,48,48,48,48,48,48,48,48,48,48,48,48,48,48,48,48,48,48,48,48,48,48,48,48,48,48,48,48,48,48,48,48,10,108,111,97,100,32,56,10,101,110,116,114,111,112,121,32,53,10] by decide +kernel] at h
 exact h
theorem t_w2:APure cx 17 [.str [103,114,97,110,117,108,101,115,32,50,10,105,100,101,97,108,10,109,97,115,116,101,114,32,48,48,48,48,48,48,48,48,48,48,48,48,48,48,48,48,48,48,48,48,48,48,48,48,48,48,48,48,48,48,48,48,48,48,48,48,48,48,48,48,48,48,48,48,48,48,48,48,48,48,48,48,48,48,48,48,48,48,48,48,48,48,48,48,10,103,114,97,110,117,108,101,115,32,50,10],.int .i64 3] (.bool true):=by
 have h:=law_wrong25 _ 3 (w_first [103,114,97,110,117,108,101,115,32,50] ⟨by decide +kernel,by decide +kernel⟩ (step_bad (y:=.gran 2) (by decide +kernel) (.inr ⟨by decide,by decide⟩)))
 rw [show HEAD++([103,114,97,110,117,108,101,115,32,50]++[10])=[103,114,97,110,117,108,101,115,32,50,10,105,100,101,97,108,10,109,97,115,116,101,114,32,48,48,48,48,48,48,48,48,48,48,48,48,48,48,48,48,48,48,48,48,48,48,48,48,48,48,48,48,48,48,48,48,48,48,48,48,48,48,48,48,48,48,48,48,48,48,48,48,48,48,48,48,48,48,48,48,48,48,48,48,48,48,48,48,10,103,114,97,110,117,108,101,115,32,50,10] by decide +kernel] at h
 exact h
theorem t_w3:APure cx 17 [.str [103,114,97,110,117,108,101,115,32,50,10,105,100,101,97,108,10,109,97,115,116,101,114,32,48,48,48,48,48,48,48,48,48,48,48,48,48,48,48,48,48,48,48,48,48,48,48,48,48,48,48,48,48,48,48,48,48,48,48,48,48,48,48,48,48,48,48,48,48,48,48,48,48,48,48,48,48,48,48,48,48,48,48,48,48,48,48,48,10,108,111,97,100,32,56],.int .i64 3] (.bool true):=by
 have h:=law_wrong25 _ 3 (w_rest [108,111,97,100,32,56] ⟨by decide +kernel,by decide +kernel⟩ (by decide))
 rw [show HEAD++[108,111,97,100,32,56]=[103,114,97,110,117,108,101,115,32,50,10,105,100,101,97,108,10,109,97,115,116,101,114,32,48,48,48,48,48,48,48,48,48,48,48,48,48,48,48,48,48,48,48,48,48,48,48,48,48,48,48,48,48,48,48,48,48,48,48,48,48,48,48,48,48,48,48,48,48,48,48,48,48,48,48,48,48,48,48,48,48,48,48,48,48,48,48,48,10,108,111,97,100,32,56] by decide +kernel] at h
 exact h
theorem t_w4:APure cx 17 [.str [103,114,97,110,117,108,101,115,32,50,10,105,100,101,97,108,10,109,97,115,116,101,114,32,48,48,48,48,48,48,48,48,48,48,48,48,48,48,48,48,48,48,48,48,48,48,48,48,48,48,48,48,48,48,48,48,48,48,48,48,48,48,48,48,48,48,48,48,48,48,48,48,48,48,48,48,48,48,48,48,48,48,48,48,48,48,48,48,10,101,110,116,114,111,112,121,32,53,10,100,114,97,119,32,48,48,10],.int .i64 4] (.bool true):=by
 have h:=law_wrong25 _ 4 (w_second [101,110,116,114,111,112,121,32,53] [100,114,97,119,32,48,48] ⟨by decide +kernel,by decide +kernel⟩ ⟨by decide +kernel,by decide +kernel⟩ ⟨{ hdS with e:=[5] },[],4⟩ st_ent5 (step_no (by decide +kernel) (stOf_no (by decide +kernel) (by decide +kernel) (by decide +kernel) (by decide +kernel))))
 rw [show HEAD++([101,110,116,114,111,112,121,32,53]++10::([100,114,97,119,32,48,48]++[10]))=[103,114,97,110,117,108,101,115,32,50,10,105,100,101,97,108,10,109,97,115,116,101,114,32,48,48,48,48,48,48,48,48,48,48,48,48,48,48,48,48,48,48,48,48,48,48,48,48,48,48,48,48,48,48,48,48,48,48,48,48,48,48,48,48,48,48,48,48,48,48,48,48,48,48,48,48,48,48,48,48,48,48,48,48,48,48,48,48,10,101,110,116,114,111,112,121,32,53,10,100,114,97,119,32,48,48,10] by decide +kernel] at h
 exact h
theorem t_w5:APure cx 17 [.str [105,100,101,97,108,10],.int .i64 0] (.bool true):=by
 have h:=law_wrong25 _ 0 (w_zero [105,100,101,97,108] ⟨by decide +kernel,by decide +kernel⟩ (step_bad (y:=.mode true) (by decide +kernel) (.inl ⟨by decide,by decide⟩)))
 exact h
theorem t_w6:APure cx 17 [.str [103,114,97,110,117,108,101,115,32,48,10],.int .i64 0] (.bool true):=by
 have h:=law_wrong25 _ 0 (w_zero [103,114,97,110,117,108,101,115,32,48] ⟨by decide +kernel,by decide +kernel⟩ (step_low0 (by decide +kernel) (by decide)))
 exact h
theorem t_w7:APure cx 17 [.str [103,114,97,110,117,108,101,115,32,52,48,57,55,10],.int .i64 0] (.bool true):=by
 have h:=law_wrong25 _ 0 (w_zero [103,114,97,110,117,108,101,115,32,52,48,57,55] ⟨by decide +kernel,by decide +kernel⟩ (step_low0 (by decide +kernel) (by decide)))
 exact h
theorem t_w8:APure cx 17 [.str [],.int .i64 0] (.bool true):=by
 have h:=law_wrong25 _ 0 (w_none)
 exact h
theorem t_w9:APure cx 17 [.str [103,114,97,110,117,108,101,115,32,50,10,105,100,101,97,108,10,109,97,115,116,101,114,32,48,48,48,48,48,48,48,48,48,48,48,48,48,48,48,48,48,48,48,48,48,48,48,48,48,48,48,48,48,48,48,48,48,48,48,48,48,48,48,48,48,48,48,48,48,48,48,48,48,48,48,48,48,48,48,48,48,48,48,48,48,48,48,48,10,102,108,121,10],.int .i64 3] (.bool true):=by
 have h:=law_wrong25 _ 3 (w_first [102,108,121] ⟨by decide +kernel,by decide +kernel⟩ (step_no (by decide +kernel) (stOf_no (by decide +kernel) (by decide +kernel) (by decide +kernel) (by decide +kernel))))
 rw [show HEAD++([102,108,121]++[10])=[103,114,97,110,117,108,101,115,32,50,10,105,100,101,97,108,10,109,97,115,116,101,114,32,48,48,48,48,48,48,48,48,48,48,48,48,48,48,48,48,48,48,48,48,48,48,48,48,48,48,48,48,48,48,48,48,48,48,48,48,48,48,48,48,48,48,48,48,48,48,48,48,48,48,48,48,48,48,48,48,48,48,48,48,48,48,48,48,10,102,108,121,10] by decide +kernel] at h
 exact h
theorem t_w10:APure cx 17 [.str [103,114,97,110,117,108,101,115,32,50,10,105,100,101,97,108,10,109,97,115,116,101,114,32,48,48,48,48,48,48,48,48,48,48,48,48,48,48,48,48,48,48,48,48,48,48,48,48,48,48,48,48,48,48,48,48,48,48,48,48,48,48,48,48,48,48,48,48,48,48,48,48,48,48,48,48,48,48,48,48,48,48,48,48,48,48,48,48,10,10],.int .i64 3] (.bool true):=by
 have h:=law_wrong25 _ 3 (w_first [] ⟨by decide +kernel,by decide +kernel⟩ (step_no (by decide +kernel) (stOf_no (by decide +kernel) (by decide +kernel) (by decide +kernel) (by decide +kernel))))
 rw [show HEAD++(([]:List UInt8)++[10])=[103,114,97,110,117,108,101,115,32,50,10,105,100,101,97,108,10,109,97,115,116,101,114,32,48,48,48,48,48,48,48,48,48,48,48,48,48,48,48,48,48,48,48,48,48,48,48,48,48,48,48,48,48,48,48,48,48,48,48,48,48,48,48,48,48,48,48,48,48,48,48,48,48,48,48,48,48,48,48,48,48,48,48,48,48,48,48,48,10,10] by decide +kernel] at h
 exact h
end Go.Am
end
