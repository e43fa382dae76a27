/- The abstract layer: functions that hand out a slice of their own, to be grown. -/
import Derived.Test.YtodiaabcaahnjaaGreatDoorAmFresh
import Derived.Test.YtodiaabcaahnjaaGreatDoorAmWalkB
import Derived.Test.YtodiaabcaahnjaaGreatDoorS05
import Derived.Test.YtodiaabcaahnjaaGreatDoorS08
set_option linter.unusedVariables false
set_option linter.unusedSimpArgs false
section
namespace Go.Am
open Go
noncomputable section
theorem ACall.freshG {C:Cx} (hG:GClosed C) {f:FuncId} {args:List AVal} {i:Nat} {T:St} {xs:List AVal} {t:TypeId} (h:ACall C f args [] (.sl 1 false xs (.own i)) T) (hT:T[i]? = some (.grow xs.length 1 t)) (hne:xs≠[])
  (hp:∀ x∈xs,Plain x∧x.cells=[x]) (ha:bels 0 args=true) (S:St):ACall C f args S (.sl 1 false xs (.own S.length)) (S++[.grow xs.length 1 t]):=by
 refine ⟨h.callable,fun E vs hE hES hvs hrel=>?_⟩
 subst hES
 have hsee:Sees E (env0 E.w E.Im):=⟨fun b o hi=>⟨⟨hi.1,.inl ⟨hi.1,hi⟩⟩,rfl⟩⟩
 have hE0:Wf C.G (env0 E.w E.Im) :=
  ⟨rfl,fun i j b h=>by simp [env0] at h,fun i b h=>by simp [env0] at h,Nat.le_refl _,fun b o _ _ i=>by simp [env0],fun i x h=>by simp [env0] at h,
   fun g v hg=>⟨(hG g v hg).move hsee (hE.glob g v hg).r,fun i=>by simp [env0],(hE.glob g v hg).obj⟩⟩
 refine (h.ok (env0 E.w E.Im) vs hE0 (by simp [env0]) hvs fun j hj=>(clo_ok _ (bels_iff.1 ha _ (List.getElem_mem hj))).move hsee (hrel j hj)).mono ?_
 rintro _ _ ⟨E',v,h1,h2,h3,h4,h5,h6⟩
 subst h1 h2
 have hS':E'.S[i]? = some (.grow xs.length 1 t):=by rw [h5];exact hT
 have hn0:xs.length≠0:=by simpa using hne
 cases h6 with
 |sl _ _ _ ad n cp fv hn hcc hcm hf hcs hr ht =>
 obtain ⟨m,t',g1,g2,g3⟩:=ht
 rw [hS'] at g1
 injection g1 with g1
 injection g1 with e1 e2 e3
 subst e3
 rcases g3 (by omega) with ⟨_,_,k0,_⟩|⟨b,arr,m1,had,m2,m3⟩
 ·omega
 injection had with had
 subst had
 have hfree:∀ q,q<E.w.heap.size→E'.free q∧E'.w.heap[q]? = E.w.heap[q]?:=fun q hq=>(h4.free q hq (fun j hj=>by simp [env0] at hj)).imp_right fun k=>k.old hq
 have hbge:E.w.heap.size≤b:=by
  rcases Nat.lt_or_ge b E.w.heap.size with hlt|hge
  ·exact absurd m1 ((hfree b hlt).1 i)
  ·exact hge
 have hblt:=h3.lt i b m1
 have hmu:∀ j:Nat,j<E.S.length→(E.mu++[some b])[j]? = E.mu[j]?:=fun j hj=>List.getElem?_append_left (by rw [hE.len];exact hj)
 have hSS:∀ j:Nat,j<E.S.length→(E.S++[ABox.grow xs.length 1 t])[j]? = E.S[j]?:=fun j hj=>List.getElem?_append_left hj
 have lt_of:∀ (j:Nat) (y:ABox),E.S[j]? = some y→j<E.S.length:=fun j y h=>by
  rcases Nat.lt_or_ge j E.S.length with hlt|hge
  ·exact hlt
  ·rw [List.getElem?_eq_none hge] at h;cases h
 have hmem:∀ (j q:Nat),(E.mu++[some b])[j]? = some (some q)→(j<E.S.length∧E.mu[j]? = some (some q))∨(j=E.S.length∧q=b):=by
  intro j q h
  rw [List.getElem?_append] at h
  split at h
  ·exact .inl ⟨by rw [← hE.len];assumption,h⟩
  ·rcases hi:j-E.mu.length with _|k
   ·rw [hi] at h
    refine .inr ⟨by rw [← hE.len];omega,?_⟩
    simp at h;exact h.symm
   ·rw [hi] at h;simp at h
 have hsz:E.w.heap.size≤E'.w.heap.size:=h4.size
 have hfr:∀ q,q<E.w.heap.size→E.free q→∀ j:Nat,(E.mu++[some b])[j]? ≠ some (some q):=by
  intro q hq hf j hj
  rcases hmem j q hj with ⟨_,k2⟩|⟨_,k2⟩
  ·exact hf j k2
  ·omega
 have hxt:Ext E { E' with mu:=E.mu++[some b],S:=E.S++[.grow xs.length 1 t],base:=E.base,im0:=E.im0,act:=E.act }:=by
  refine ⟨rfl,rfl,rfl,hsz,h4.os,h4.tape,h4.output,by simp,fun q hq hf=>⟨hfr q hq hf,.inl (hfree q hq).2⟩,fun j y h hy=>⟨hmu j (lt_of j y h),y,(hSS j (lt_of j y h)).trans h,hy⟩,
   fun j n sz t h=>⟨n,(hSS j (lt_of j _ h)).trans h,Nat.le_refl _,fun _=>⟨hmu j (lt_of j _ h),fun q hq=>(hfree q (hE.lt j q hq)).2⟩,
    fun q hq=>⟨fun o _=>cell_same (hfree q (hE.lt j q hq)).2 _ _,.inl ((hmu j (lt_of j _ h)).trans hq)⟩⟩,fun j q o h hq=>⟨(hSS j (lt_of j _ h)).trans h,(hfree q (hE.lt j q hq)).2⟩⟩
 have hmb:(E.mu++[some b])[E.S.length]? = some (some b):=by rw [← hE.len];simp
 refine ⟨{ E' with mu:=E.mu++[some b],S:=E.S++[.grow xs.length 1 t],base:=E.base,im0:=E.im0,act:=E.act },_,rfl,rfl,⟨by simp [hE.len],fun j j' q k1 k2=>?_,fun j q k=>?_,Nat.le_trans hE.base hsz,fun q o k1 k2=>?_,fun j y k=>?_,fun g u k=>(hE.glob g u k).ext hE hxt⟩,hxt,rfl,?_⟩
 ·rcases hmem j q k1 with ⟨_,m1⟩|⟨e1,c1⟩<;>rcases hmem j' q k2 with ⟨_,m2⟩|⟨e2,c2⟩
  ·exact hE.inj j j' q m1 m2
  ·have:=hE.lt j q m1;omega
  ·have:=hE.lt j' q m2;omega
  ·omega
 ·rcases hmem j q k with ⟨_,m1⟩|⟨_,c1⟩
  ·exact Nat.lt_of_lt_of_le (hE.lt j q m1) hsz
  ·rw [c1];exact hblt
 ·have k1:q<E.base:=k1
  have k2:E.im0 q o:=k2
  exact hfr q (Nat.lt_of_lt_of_le k1 hE.base) (hE.im q o k1 k2)
 ·have k':(E.S++[ABox.grow xs.length 1 t])[j]? = some y:=k
  rw [List.getElem?_append] at k'
  split at k'
  ·next hl=>exact (hE.entry j y k').keep hE hxt (hmu j hl) fun q hq=>(hfree q (hE.lt j q hq)).2
  ·next hl =>
   rcases hi:j-E.S.length with _|k
   ·rw [hi] at k'
    simp at k'
    subst k'
    have:j=E.S.length:=by omega
    subst this
    exact .inr ⟨b,arr,hmb,Nat.le_trans hE.base hbge,m2,by omega⟩
   ·rw [hi] at k';simp at k'
 ·refine .sl _ _ _ _ n cp fv hn hcc hcm (fun q hq=>?_) hcs (fun k hk j hj=>?_) ⟨xs.length,t,by rw [List.getElem?_append_right (Nat.le_refl _)];simp,by omega,fun _=>.inr ⟨b,arr,hmb,rfl,m2,m3⟩⟩
  ·obtain ⟨f1,f2,_,f4⟩:=hf q hq
   refine ⟨f1,f2,⟨hblt,.inr (.inr ⟨Nat.le_trans hE.base hbge,E.S.length,xs.length,1,t,hmb,?_,by simpa [hn] using hq⟩)⟩,f4⟩
   show (E.S++[ABox.grow xs.length 1 t])[E.S.length]? = _
   rw [List.getElem?_append_right (Nat.le_refl _)];simp
  ·obtain ⟨p1,p2⟩:=hp _ (List.getElem_mem hk)
   have hrq:=hr k hk j hj
   have hj0:j=0:=by rw [p2] at hj;simpa using hj
   subst hj0
   have hce:(xs[k]).cells[0]'hj=xs[k]:=by simp only [p2,List.getElem_cons_zero]
   rw [hce] at hrq ⊢
   exact Plain.move hrq p1
theorem GStep.nilO {C:Cx} {N:Nat} (d sz:Nat) (t:TypeId) {fr:Fr} {S:St} {sz0:Nat} {tg:Tag} (hd:fr.get d = .sl sz0 true [] tg) :
  GStep C N fr S ((d,.sl sz true [] (.own S.length))::fr) (S++[.grow 0 sz t]):=by
 intro E a hE hS hr
 subst hS
 obtain ⟨k1,k2⟩:=env_ghost hE 0 sz t
 refine ⟨{ E with mu:=E.mu++[none],S:=E.S++[.grow 0 sz t] },rfl,k1,k2,rfl,hr.size,hr.df.ext k1,fun s=>?_⟩
 simp only [Fr.get]
 split
 ·next e =>
  subst e
  have hx:=hr.slot s
  rw [hd] at hx
  have hmu:(E.mu++[none])[E.S.length]? = some none:=by rw [← hE.len];simp
  have hS0:(E.S++[ABox.grow 0 sz t])[E.S.length]? = some (.grow 0 sz t):=by simp
  generalize a.tmps.getD s undef=x at hx
  cases hx with
  |slnil _ _ ht=>exact .slnil _ _ ⟨0,t,hS0,Nat.le_refl _,fun _=>.inl ⟨hmu,rfl,rfl,rfl⟩⟩
 ·exact (hr.slot s).ext hE k1
end
end Go.Am
end
section
namespace Go.Am
open Go Go.Proofs
set_option maxHeartbeats 8000000
set_option maxRecDepth 100000
section
attribute [local irreducible] aC aL thenQ blockQ scopeQ ALoop AWp
theorem ref_cutG0 (s:List UInt8) (hs:s.length≤1048576):ACall cx 36 [.str s] [] (.sl 1 false ((cutA 32 [] s).map .str) (.own 0)) [.grow ((cutA 32 [] s).map AVal.str).length 1 9]:=by
 refine acall_fnK cxOk Tryz.func36 (fun _=>false) (fe36.q) (by kernel_rfl) (by dsimp only [Tryz.f36,go_sem,seval,liteO,Option.map,List.map];exact .mk _) ?_
 dsimp only [Tryz.f36,frame0,List.zipIdx,List.map,Nat.reduceAdd]
 try simp only [List.getElem?_toArray,List.getElem?_cons_succ,List.getElem?_cons_zero,Option.bind_some]
 repeat' (first|refine aC_seq ?_|refine aC_reg rfl ?_|refine aC_block ?_|refine aC_loop ?_|refine thenQ_normal ?_|refine aL_nil ?_|(apply aL_step;(·exact True.intro);(iterate 2 (·simp (disch:=omega) only [go_sem,seval]<;>with_reducible rfl));(·simp only [go_sem]<;>with_reducible rfl))|fail)
 ·refine loop_rule (cxOk.wp _ _) (σ:=Nat × Nat × List (List UInt8)) (fun x=>[(3,.sl 1 x.2.2.isEmpty (x.2.2.map .str) (.own 0)),(4,.int .i64 x.2.1),(5,.int .i64 x.1),(0,.str s)])
   (fun x=>[.grow x.2.2.length 1 9]) (fun x=>s.length+1-x.1) (fun x=>x.2.2.length≤x.1∧((x.1≤s.length∧x.2.1≤x.1∧cutA 32 [] s=x.2.2++cutA 32 ((s.take x.1).drop x.2.1) (s.drop x.1))∨(x.1=s.length+1∧cutA 32 [] s=x.2.2)))
   (0,0,[]) (GStep.nilO 3 1 9 rfl) ⟨⟨Nat.le_refl _,.inl ⟨Nat.zero_le _,Nat.le_refl _,by simp⟩⟩,Sub.of_all (by simp [Fr.get,frame0]),by simp⟩ ?_
  rintro ⟨i,at_,L⟩ ⟨hLi,hJ⟩
  simp only at hLi hJ ⊢
  rcases hJ with ⟨h1,h2,h3⟩|⟨h1,h3⟩
  ·by_cases hlt:i<s.length
   ·have hd:s.drop i=s[i]::s.drop (i+1):=List.drop_eq_getElem_cons hlt
    have hg:s.getD i 0=s[i]:=by simp [List.getD,hlt]
    have ht:(s.take (i+1)).drop at_=(s.take i).drop at_++[s[i]]:=by
     rw [List.take_succ_eq_append_getElem hlt,List.drop_append_of_le_length (by simp;omega)]
    rw [hd] at h3
    simp only [cutA] at h3
    by_cases h32:s[i]=32
    ·rw [if_pos h32] at h3
     repeat' (first|refine aC_seq ?_|refine aC_reg rfl ?_|refine aC_block ?_|refine aC_skip ?_|refine thenQ_normal ?_|refine blockQ_normal ?_|refine aL_nil ?_|(apply aL_step;(·exact True.intro);(iterate 2 (·simp (disch:=omega) only [go_sem,seval,hg,h32,show (((32:UInt8).toNat:Nat):Int)=32 from rfl,eq_self_iff_true,decide_true]<;>with_reducible rfl));(·simp only [go_sem]<;>with_reducible rfl))|(apply aL_guardN;(·simp (disch:=omega) only [go_sem,seval,hg,h32,show (((32:UInt8).toNat:Nat):Int)=32 from rfl,eq_self_iff_true,decide_true]<;>with_reducible rfl);all_goals (intro h;first|(exfalso;omega)|(simp only [h,decide_true,decide_false,not_true,not_false_iff])))|(refine aC_condT ?_ ?_;(·simp (disch:=omega) only [go_sem,seval,hg,h32,show (((32:UInt8).toNat:Nat):Int)=32 from rfl,eq_self_iff_true,decide_true]))|(refine aC_condP (by simp (disch:=omega) only [go_sem,seval,hg,h32,show (((32:UInt8).toNat:Nat):Int)=32 from rfl,eq_self_iff_true,decide_true]<;>with_reducible rfl) ?_ ?_<;>(intro h;first|(exfalso;omega)|skip))|fail)
     all_goals try (first|exact True.intro|exact not_false|omega|(simp (disch:=omega) only [go_sem,seval]<;>omega))
     all_goals exact ⟨(i+1,i+1,L++[(s.take i).drop at_]),⟨by simp;omega,.inl ⟨by omega,Nat.le_refl _,by rw [h3];simp⟩⟩,Sub.of_all (by simp [Fr.get]),by simp,by simp;omega⟩
    ·rw [if_neg h32,← ht] at h3
     have hne:¬ ((s[i].toNat:Int)=32):=fun e=>h32 (UInt8.toNat_inj.1 (by rw [show (32:UInt8).toNat=32 from rfl];omega))
     repeat' (first|refine aC_seq ?_|refine aC_reg rfl ?_|refine aC_block ?_|refine aC_skip ?_|refine thenQ_normal ?_|refine blockQ_normal ?_|refine aL_nil ?_|(apply aL_step;(·exact True.intro);(iterate 2 (·simp (disch:=omega) only [go_sem,seval,hg,hne,decide_false]<;>with_reducible rfl));(·simp only [go_sem]<;>with_reducible rfl))|(apply aL_guardN;(·simp (disch:=omega) only [go_sem,seval,hg,hne,decide_false]<;>with_reducible rfl);all_goals (intro h;first|(exfalso;omega)|(simp only [h,decide_true,decide_false,not_true,not_false_iff])))|(refine aC_condF ?_ ?_;(·simp (disch:=omega) only [go_sem,seval,hg,hne,decide_false]))|(refine aC_condP (by simp (disch:=omega) only [go_sem,seval,hg,hne,decide_false]<;>with_reducible rfl) ?_ ?_<;>(intro h;first|(exfalso;omega)|skip))|fail)
     all_goals try (first|exact True.intro|exact not_false|omega|(simp (disch:=omega) only [go_sem,seval]<;>omega))
     all_goals exact ⟨(i+1,at_,L),⟨by simp;omega,.inl ⟨by omega,by simp;omega,h3⟩⟩,Sub.of_all (by simp [Fr.get]),rfl,by simp;omega⟩
   ·have hi:i=s.length:=by omega
    subst hi
    repeat' (first|refine aC_seq ?_|refine aC_reg rfl ?_|refine aC_block ?_|refine aC_skip ?_|refine thenQ_normal ?_|refine blockQ_normal ?_|refine aL_nil ?_|(apply aL_step;(·exact True.intro);(iterate 2 (·simp (disch:=omega) only [go_sem,seval]<;>with_reducible rfl));(·simp only [go_sem]<;>with_reducible rfl))|(refine aL_skip ?_ (by simp only [go_sem]<;>with_reducible rfl) ?_;(·simp (disch:=omega) only [go_sem,seval]))|(refine aC_condT ?_ ?_;(·simp (disch:=omega) only [go_sem,seval]))|(refine aC_condP (by simp (disch:=omega) only [go_sem,seval]<;>with_reducible rfl) ?_ ?_<;>(intro h;first|(exfalso;omega)|skip))|fail)
    all_goals try (first|exact True.intro|exact not_false|omega|(simp (disch:=omega) only [go_sem,seval]<;>omega))
    all_goals exact ⟨(s.length+1,s.length+1,L++[s.drop at_]),⟨by simp;omega,.inr ⟨rfl,by rw [h3];simp [cutA]⟩⟩,Sub.of_all (by simp [Fr.get]),by simp,by simp⟩
  ·subst h1
   have hne:L.isEmpty=false:=by
    rw [← h3]
    cases hq:cutA 32 [] s with
    |nil=>exact absurd hq (cutA_ne 32 s [])
    |cons a l=>rfl
   subst h3
   repeat' (first|refine aC_seq ?_|refine aC_reg rfl ?_|refine aC_exit ?_|refine aC_ret ?_|refine thenQ_normal ?_|refine thenQ_exit ?_|refine blockQ_hit ?_|refine aL_nil ?_|(apply aL_step;(·exact True.intro);(iterate 2 (·simp (disch:=omega) only [go_sem,seval]<;>with_reducible rfl));(·simp only [go_sem]<;>with_reducible rfl))|(refine aC_condP (by simp (disch:=omega) only [go_sem,seval]<;>with_reducible rfl) ?_ ?_<;>(intro h;first|(exfalso;omega)|skip))|fail)
   all_goals try (first|exact True.intro|exact not_false|omega|(simp (disch:=omega) only [go_sem,seval]<;>omega))
   all_goals try (simp (disch:=omega) only [go_sem,seval,hne])
   all_goals try simp
 all_goals trivial
theorem ref_cutG (s:List UInt8) (hs:s.length≤1048576) (S:St):ACall cx 36 [.str s] S (.sl 1 false ((parts s [32]).map .str) (.own S.length)) (S++[.grow ((parts s [32]).map AVal.str).length 1 9]):=by
 have h:=ref_cutG0 s hs
 rw [cutA_parts 32 s.length s (Nat.le_refl _)] at h
 refine ACall.freshG cxG h rfl (fun e=>?_) (fun x hx=>by obtain ⟨b,_,rfl⟩:=List.mem_map.1 hx;exact ⟨.str _,rfl⟩) (by simp [bels,bel]) S
 obtain ⟨w0,wr,hw,_⟩:=parts_len s [32] (by decide)
 rw [hw] at e
 cases e
end
end Go.Am
end
section
namespace Go.Am
open Go Go.Proofs
set_option maxHeartbeats 8000000
set_option maxRecDepth 100000
section
attribute [local irreducible] aC aL thenQ blockQ scopeQ ALoop AWp
theorem ref_unline_cand (s:List UInt8) (hs:s.length≤100000) (hno:∀ op xs,¬ IsCall s op xs) (r:AVal)
  (hr:r=bif decide (MayS (rc2 (pt s 1)))&&decide (lineS (rc2 (pt s 1))=s) then .tup [.agg (spC (rc2 (pt s 1)) true .any),.bool true]
   else bif decide (MayS (rc3 (pt s 1) (pt s 2)))&&decide (lineS (rc3 (pt s 1) (pt s 2))=s) then .tup [.agg (spC (rc3 (pt s 1) (pt s 2)) true .any),.bool true]
   else bif goodp (pt s 1)&&decide (MayS (rc4 (pt s 1)))&&decide (lineS (rc4 (pt s 1))=s) then .tup [.agg (spC (rc4 (pt s 1)) (unpre (pt s 1)).isEmpty .any),.bool true]
   else .tup [.agg (spC Sp.zero true .any),.bool false]) :
  APure cx 10 [.str s] r:=by
 have hu:=ref_Untext s (by omega) _ (.inr ⟨hno,rfl⟩)
 have hc:=ref_cutG s (by omega)
 obtain ⟨k2,k3,k4⟩:=rc_ok s hs
 have l1:=pt_len s 1
 have l2:=pt_len s 2
 have n1:=ref_number25 (pt s 1) (by omega)
 have n2:=ref_number25 (pt s 2) (by omega)
 have ux:=ref_unhex (pt s 1) (by omega)
 have m2:=ref_MayStep (rc2 (pt s 1)) k2.x6 true
 have m3:=ref_MayStep (rc3 (pt s 1) (pt s 2)) k3.x6 true
 have m4:=ref_MayStep (rc4 (pt s 1)) k4.x6 (unpre (pt s 1)).isEmpty
 have i2:=ref_Line (rc2 (pt s 1)) k2 (fun h=>absurd h (show (2:Int)≠1 by decide)) true
 have i3:=ref_Line (rc3 (pt s 1) (pt s 2)) k3 (fun h=>absurd h (show (3:Int)≠1 by decide)) true
 have i4:=ref_Line (rc4 (pt s 1)) k4 (fun h=>absurd h (show (4:Int)≠1 by decide)) (unpre (pt s 1)).isEmpty
 obtain ⟨w0,wr,hw,hwl⟩:=parts_len s [32] (by decide)
 have hLn:1≤((parts s [32]).map AVal.str).length∧((parts s [32]).map AVal.str).length≤s.length+1:=by rw [hw];simp;omega
 have g1:((parts s [32]).map AVal.str++[AVal.str [],AVal.str []]).getD 1 .any = .str (pt s 1):=by
  have:pt s 1=((w0::wr)++[[],[]]:List (List UInt8)).getD 1 []:=by unfold pt;rw [hw]
  rw [this,hw]
  cases wr<;>rfl
 have g2:((parts s [32]).map AVal.str++[AVal.str [],AVal.str []]).getD 2 .any = .str (pt s 2):=by
  have:pt s 2=((w0::wr)++[[],[]]:List (List UInt8)).getD 2 []:=by unfold pt;rw [hw]
  rw [this,hw]
  rcases wr with _|⟨a,_|⟨b,wr⟩⟩<;>rfl
 clear hw hwl hno k2 k3 k4
 generalize hLL:(parts s [32]).map AVal.str=LL at *
 generalize decide (MayS (rc2 (pt s 1)))=q2 at *
 generalize decide (MayS (rc3 (pt s 1) (pt s 2)))=q3 at *
 generalize decide (MayS (rc4 (pt s 1)))=q4 at *
 generalize lineS (rc2 (pt s 1))=X2 at *
 generalize lineS (rc3 (pt s 1) (pt s 2))=X3 at *
 generalize lineS (rc4 (pt s 1))=X4 at *
 unfold rc2 at *
 unfold rc3 at *
 unfold rc4 at *
 generalize pt s 1=p1 at *
 generalize pt s 2=p2 at *
 generalize rnum (p1.take 20)=a at *
 generalize rnum (p2.take 20)=b at *
 have hul:=unpre_le p1
 generalize unpre p1=u at *
 generalize goodp p1=gp at *
 simp only [Sp.zero,Z6,spC_six,bl_nil,nz] at *
 subst hr
 cases gp
 ·simp only [Bool.false_eq_true,if_false,Bool.false_and,cond_false] at *
  refine pure_fnK cxOk Tryz.func10 (fun _=>false) (fe10.q) (by kernel_rfl) (by dsimp only [Tryz.f10,go_sem,seval,liteO,Option.map,List.map];exact .mk _) ?_
  dsimp only [Tryz.f10,frame0,List.zipIdx,List.map,Nat.reduceAdd]
  try simp only [List.getElem?_toArray,List.getElem?_cons_succ,List.getElem?_cons_zero,Option.bind_some]
  repeat' (first|refine aC_seq ?_|refine aC_reg rfl ?_|refine aC_skip ?_|refine thenQ_normal ?_|refine aL_nil ?_|(apply aL_step;(·exact True.intro);(iterate 2 (·simp (disch:=omega) only [go_sem,seval,g1,g2]<;>with_reducible rfl));(·simp only [go_sem]<;>with_reducible rfl))|(refine aC_condF ?_ ?_;(·simp (disch:=omega) only [go_sem,seval,g1,g2]))|(apply aL_pK cxG (hu);(iterate 2 (·simp (disch:=omega) only [go_sem,seval,g1,g2]<;>with_reducible rfl));(·simp only [go_sem]<;>with_reducible rfl);(·simp))|(apply aL_aK ((hc _));(·rfl);(iterate 2 (·simp (disch:=omega) only [go_sem,seval,g1,g2]<;>with_reducible rfl));(·simp only [go_sem]<;>with_reducible rfl))|(apply aL_pK cxG (ux);(iterate 2 (·simp (disch:=omega) only [go_sem,seval,g1,g2]<;>with_reducible rfl));(·simp only [go_sem]<;>with_reducible rfl);(·simp))|fail)
  all_goals try (first|exact True.intro|exact not_false|omega|(simp (disch:=omega) only [go_sem,seval]<;>omega))
  refine aC_regB (U:=[(some 37,some 33),(some 41,some 33),(some 41,some 38)]) rfl [] ?_
  repeat' (first|refine aLB_nil ?_|(apply aLB_step;(·exact True.intro);(·exact (by intro h;cases h));(·rfl);(·simp (disch:=omega) only [go_sem,seval,g1,g2]);(·simp (disch:=omega) only [go_sem,seval,g1,g2]<;>with_reducible rfl);(·simp only [go_sem]<;>with_reducible rfl);(·(intro b hb;first|(cases hb;done)|(simp (disch:=omega) only [loadBox,go_sem,seval] at hb;(try injection hb with hb);subst hb;simp))))|(apply aLB_pure cxG (n1);(case hg=>(simp (disch:=omega) only [go_sem,seval,g1,g2]));(case hx=>(simp (disch:=omega) only [go_sem,seval,g1,g2]<;>with_reducible rfl));(case ha=>(simp (disch:=omega) only [go_sem,seval,g1,g2]<;>with_reducible rfl));(case he=>(simp only [go_sem]<;>with_reducible rfl));(case hcl=>(simp));(case hf=>(simp only [go_sem]<;>with_reducible rfl)))|(apply aLB_pure cxG (n2);(case hg=>(simp (disch:=omega) only [go_sem,seval,g1,g2]));(case hx=>(simp (disch:=omega) only [go_sem,seval,g1,g2]<;>with_reducible rfl));(case ha=>(simp (disch:=omega) only [go_sem,seval,g1,g2]<;>with_reducible rfl));(case he=>(simp only [go_sem]<;>with_reducible rfl));(case hcl=>(simp));(case hf=>(simp only [go_sem]<;>with_reducible rfl)))|fail)
  repeat' (first|refine aC_seq ?_|refine aC_reg rfl ?_|refine aC_block ?_|refine aC_skip ?_|refine aC_loop ?_|refine thenQ_normal ?_|refine aL_nil ?_|(apply aL_step;(·exact True.intro);(iterate 2 (·simp (disch:=omega) only [go_sem,seval]<;>with_reducible rfl));(·simp only [go_sem]<;>with_reducible rfl))|(refine aC_condF ?_ ?_;(·simp (disch:=omega) only [go_sem,seval]))|fail)
  all_goals try (first|exact True.intro|exact not_false|omega|(simp (disch:=omega) only [go_sem,seval]<;>omega))
  all_goals try (intro _ _ h;exact h.elim)
  refine loop_rule (cxOk.wp _ _) (σ:=Nat) (fun k=>[(10,.int .i64 k),(9,.sl 11 false [.agg [.int .i64 2,.int .i64 0,.int .u64 0,.int .u64 0,.int .u64 0,.int .u64 0,.int .u64 0,.int .u64 0,.int .u64 (a:Nat),.int .u64 0,.sl 1 true [] .any],.agg [.int .i64 3,.int .i64 0,.int .u64 0,.int .u64 0,.int .u64 0,.int .u64 0,.int .u64 0,.int .u64 0,.int .u64 (a:Nat),.int .u64 (b:Nat),.sl 1 true [] .any]] .full),(2,.ptr 0 0),(0,.str s)])
   (fun _=>_) (fun k=>2-k) (fun k=>k≤2∧(1≤k→(q2&&decide (X2=s))=false)∧(2≤k→(q3&&decide (X3=s))=false)) 0 (GStep.refl _ _) ⟨⟨Nat.zero_le _,fun h=>absurd h (by decide),fun h=>absurd h (by decide)⟩,Sub.of_all (by simp [Fr.get]),rfl⟩ ?_
  rintro k ⟨hk,h1,h2⟩
  have hkk:k=0∨k=1∨k=2:=by omega
  rcases hkk with rfl|rfl|rfl
  ·clear h1 h2
   cases q2
   all_goals by_cases eX:X2=s
   all_goals
   repeat' (first|refine aC_seq ?_|refine aC_reg rfl ?_|refine aC_block ?_|refine aC_skip ?_|refine aC_ret ?_|refine thenQ_normal ?_|refine blockQ_normal ?_|refine thenQ_ret ?_|refine blockQ_ret ?_|refine aL_nil ?_|(apply aL_step;(·exact True.intro);(iterate 2 (·simp (disch:=omega) only [go_sem,seval,eX,eq_self_iff_true,decide_true,decide_false,not_true_eq_false,not_false_eq_true]<;>with_reducible rfl));(·simp only [go_sem]<;>with_reducible rfl))|(refine aL_skip ?_ (by simp only [go_sem]<;>with_reducible rfl) ?_;(·simp (disch:=omega) only [go_sem,seval,eX,eq_self_iff_true,decide_true,decide_false,not_true_eq_false,not_false_eq_true]))|(refine aC_condT ?_ ?_;(·simp (disch:=omega) only [go_sem,seval,eX,eq_self_iff_true,decide_true,decide_false,not_true_eq_false,not_false_eq_true]))|(refine aC_condF ?_ ?_;(·simp (disch:=omega) only [go_sem,seval,eX,eq_self_iff_true,decide_true,decide_false,not_true_eq_false,not_false_eq_true]))|(apply aL_pK cxG (m2);(iterate 2 (·simp (disch:=omega) only [go_sem,seval,eX,eq_self_iff_true,decide_true,decide_false,not_true_eq_false,not_false_eq_true]<;>with_reducible rfl));(·simp only [go_sem]<;>with_reducible rfl);(·simp))|(apply aL_pK cxG (i2);(iterate 2 (·simp (disch:=omega) only [go_sem,seval,eX,eq_self_iff_true,decide_true,decide_false,not_true_eq_false,not_false_eq_true]<;>with_reducible rfl));(·simp only [go_sem]<;>with_reducible rfl);(·simp))|fail)
   all_goals try (first|exact True.intro|exact not_false|omega|(simp (disch:=omega) only [go_sem,seval]<;>omega))
   all_goals clear hu hc n1 n2 m2 m3 i2 i3 ux m4 i4
   all_goals first
    |exact ⟨1,⟨by omega,by intro _;first|(exfalso;omega)|assumption|(simp [eX];done),by intro _;first|(exfalso;omega)|assumption|(simp [eX];done)⟩,Sub.of_all (by simp [Fr.get]),rfl,by omega⟩
    |(simp (disch:=omega) only [go_sem,seval];done)
    |(simp (disch:=omega) only [go_sem,seval];simp [eX];done)
    |(simp [eX];done)
  ·have e1:=h1 (by omega);clear h1 h2
   cases q3
   all_goals by_cases eX:X3=s
   all_goals
   repeat' (first|refine aC_seq ?_|refine aC_reg rfl ?_|refine aC_block ?_|refine aC_skip ?_|refine aC_ret ?_|refine thenQ_normal ?_|refine blockQ_normal ?_|refine thenQ_ret ?_|refine blockQ_ret ?_|refine aL_nil ?_|(apply aL_step;(·exact True.intro);(iterate 2 (·simp (disch:=omega) only [go_sem,seval,eX,eq_self_iff_true,decide_true,decide_false,not_true_eq_false,not_false_eq_true]<;>with_reducible rfl));(·simp only [go_sem]<;>with_reducible rfl))|(refine aL_skip ?_ (by simp only [go_sem]<;>with_reducible rfl) ?_;(·simp (disch:=omega) only [go_sem,seval,eX,eq_self_iff_true,decide_true,decide_false,not_true_eq_false,not_false_eq_true]))|(refine aC_condT ?_ ?_;(·simp (disch:=omega) only [go_sem,seval,eX,eq_self_iff_true,decide_true,decide_false,not_true_eq_false,not_false_eq_true]))|(refine aC_condF ?_ ?_;(·simp (disch:=omega) only [go_sem,seval,eX,eq_self_iff_true,decide_true,decide_false,not_true_eq_false,not_false_eq_true]))|(apply aL_pK cxG (m3);(iterate 2 (·simp (disch:=omega) only [go_sem,seval,eX,eq_self_iff_true,decide_true,decide_false,not_true_eq_false,not_false_eq_true]<;>with_reducible rfl));(·simp only [go_sem]<;>with_reducible rfl);(·simp))|(apply aL_pK cxG (i3);(iterate 2 (·simp (disch:=omega) only [go_sem,seval,eX,eq_self_iff_true,decide_true,decide_false,not_true_eq_false,not_false_eq_true]<;>with_reducible rfl));(·simp only [go_sem]<;>with_reducible rfl);(·simp))|fail)
   all_goals try (first|exact True.intro|exact not_false|omega|(simp (disch:=omega) only [go_sem,seval]<;>omega))
   all_goals clear hu hc n1 n2 m2 m3 i2 i3 ux m4 i4
   all_goals first
    |exact ⟨2,⟨by omega,by intro _;first|(exfalso;omega)|assumption|(simp [eX];done),by intro _;first|(exfalso;omega)|assumption|(simp [eX];done)⟩,Sub.of_all (by simp [Fr.get]),rfl,by omega⟩
    |(simp (disch:=omega) only [go_sem,seval];done)
    |(simp (disch:=omega) only [go_sem,seval];simp [eX,e1];done)
    |(simp [eX,e1];done)
  ·have e1:=h1 (by omega);have e2:=h2 (by omega);clear h1 h2
   repeat' (first|refine aC_seq ?_|refine aC_reg rfl ?_|refine aC_exit ?_|refine aC_ret ?_|refine thenQ_normal ?_|refine thenQ_exit ?_|refine blockQ_hit ?_|refine aL_nil ?_|(apply aL_step;(·exact True.intro);(iterate 2 (·simp (disch:=omega) only [go_sem,seval,eq_self_iff_true,decide_true,decide_false]<;>with_reducible rfl));(·simp only [go_sem]<;>with_reducible rfl))|(refine aC_condF ?_ ?_;(·simp (disch:=omega) only [go_sem,seval,eq_self_iff_true,decide_true,decide_false]))|fail)
   all_goals try (first|exact True.intro|exact not_false|omega|(simp (disch:=omega) only [go_sem,seval]<;>omega))
   all_goals clear hu hc n1 n2 m2 m3 i2 i3 ux m4 i4
   all_goals first
    |(simp (disch:=omega) only [go_sem,seval];done)
    |(simp (disch:=omega) only [go_sem,seval];simp [e1,e2];done)
    |(simp [e1,e2];done)
 ·simp only [if_true,Bool.true_and] at *
  refine pure_fnK cxOk Tryz.func10 (fun _=>false) (fe10.q) (by kernel_rfl) (by dsimp only [Tryz.f10,go_sem,seval,liteO,Option.map,List.map];exact .mk _) ?_
  dsimp only [Tryz.f10,frame0,List.zipIdx,List.map,Nat.reduceAdd]
  try simp only [List.getElem?_toArray,List.getElem?_cons_succ,List.getElem?_cons_zero,Option.bind_some]
  repeat' (first|refine aC_seq ?_|refine aC_reg rfl ?_|refine aC_skip ?_|refine thenQ_normal ?_|refine aL_nil ?_|(apply aL_step;(·exact True.intro);(iterate 2 (·simp (disch:=omega) only [go_sem,seval,g1,g2]<;>with_reducible rfl));(·simp only [go_sem]<;>with_reducible rfl))|(refine aC_condF ?_ ?_;(·simp (disch:=omega) only [go_sem,seval,g1,g2]))|(apply aL_pK cxG (hu);(iterate 2 (·simp (disch:=omega) only [go_sem,seval,g1,g2]<;>with_reducible rfl));(·simp only [go_sem]<;>with_reducible rfl);(·simp))|(apply aL_aK ((hc _));(·rfl);(iterate 2 (·simp (disch:=omega) only [go_sem,seval,g1,g2]<;>with_reducible rfl));(·simp only [go_sem]<;>with_reducible rfl))|(apply aL_pK cxG (ux);(iterate 2 (·simp (disch:=omega) only [go_sem,seval,g1,g2]<;>with_reducible rfl));(·simp only [go_sem]<;>with_reducible rfl);(·simp))|fail)
  all_goals try (first|exact True.intro|exact not_false|omega|(simp (disch:=omega) only [go_sem,seval]<;>omega))
  refine aC_regB (U:=[(some 37,some 33),(some 41,some 33),(some 41,some 38)]) rfl [] ?_
  repeat' (first|refine aLB_nil ?_|(apply aLB_step;(·exact True.intro);(·exact (by intro h;cases h));(·rfl);(·simp (disch:=omega) only [go_sem,seval,g1,g2]);(·simp (disch:=omega) only [go_sem,seval,g1,g2]<;>with_reducible rfl);(·simp only [go_sem]<;>with_reducible rfl);(·(intro b hb;first|(cases hb;done)|(simp (disch:=omega) only [loadBox,go_sem,seval] at hb;(try injection hb with hb);subst hb;simp))))|(apply aLB_pure cxG (n1);(case hg=>(simp (disch:=omega) only [go_sem,seval,g1,g2]));(case hx=>(simp (disch:=omega) only [go_sem,seval,g1,g2]<;>with_reducible rfl));(case ha=>(simp (disch:=omega) only [go_sem,seval,g1,g2]<;>with_reducible rfl));(case he=>(simp only [go_sem]<;>with_reducible rfl));(case hcl=>(simp));(case hf=>(simp only [go_sem]<;>with_reducible rfl)))|(apply aLB_pure cxG (n2);(case hg=>(simp (disch:=omega) only [go_sem,seval,g1,g2]));(case hx=>(simp (disch:=omega) only [go_sem,seval,g1,g2]<;>with_reducible rfl));(case ha=>(simp (disch:=omega) only [go_sem,seval,g1,g2]<;>with_reducible rfl));(case he=>(simp only [go_sem]<;>with_reducible rfl));(case hcl=>(simp));(case hf=>(simp only [go_sem]<;>with_reducible rfl)))|fail)
  repeat' (first|refine aC_seq ?_|refine aC_reg rfl ?_|refine aC_block ?_|refine aC_loop ?_|refine thenQ_normal ?_|refine aL_nil ?_|(apply aL_step;(·exact True.intro);(iterate 2 (·simp (disch:=omega) only [go_sem,seval]<;>with_reducible rfl));(·simp only [go_sem]<;>with_reducible rfl))|(refine aC_condT ?_ ?_;(·simp (disch:=omega) only [go_sem,seval]))|fail)
  all_goals try (first|exact True.intro|exact not_false|omega|(simp (disch:=omega) only [go_sem,seval]<;>omega))
  all_goals try (intro _ _ h;exact h.elim)
  refine loop_rule (cxOk.wp _ _) (σ:=Nat) (fun k=>[(10,.int .i64 k),(9,.sl 11 false [.agg [.int .i64 2,.int .i64 0,.int .u64 0,.int .u64 0,.int .u64 0,.int .u64 0,.int .u64 0,.int .u64 0,.int .u64 (a:Nat),.int .u64 0,.sl 1 true [] .any],.agg [.int .i64 3,.int .i64 0,.int .u64 0,.int .u64 0,.int .u64 0,.int .u64 0,.int .u64 0,.int .u64 0,.int .u64 (a:Nat),.int .u64 (b:Nat),.sl 1 true [] .any],.agg [.int .i64 4,.int .i64 0,.int .u64 0,.int .u64 0,.int .u64 0,.int .u64 0,.int .u64 0,.int .u64 0,.int .u64 0,.int .u64 0,.sl 1 u.isEmpty (bl u) .any]] (.grow 3)),(2,.ptr 0 0),(0,.str s)])
   (fun _=>_) (fun k=>3-k) (fun k=>k≤3∧(1≤k→(q2&&decide (X2=s))=false)∧(2≤k→(q3&&decide (X3=s))=false)∧(3≤k→(q4&&decide (X4=s))=false)) 0 (GStep.refl _ _) ⟨⟨Nat.zero_le _,fun h=>absurd h (by decide),fun h=>absurd h (by decide),fun h=>absurd h (by decide)⟩,Sub.of_all (by simp [Fr.get]),rfl⟩ ?_
  rintro k ⟨hk,h1,h2,h3⟩
  have hkk:k=0∨k=1∨k=2∨k=3:=by omega
  rcases hkk with rfl|rfl|rfl|rfl
  ·clear h1 h2 h3
   cases q2
   all_goals by_cases eX:X2=s
   all_goals
   repeat' (first|refine aC_seq ?_|refine aC_reg rfl ?_|refine aC_block ?_|refine aC_skip ?_|refine aC_ret ?_|refine thenQ_normal ?_|refine blockQ_normal ?_|refine thenQ_ret ?_|refine blockQ_ret ?_|refine aL_nil ?_|(apply aL_step;(·exact True.intro);(iterate 2 (·simp (disch:=omega) only [go_sem,seval,eX,eq_self_iff_true,decide_true,decide_false,not_true_eq_false,not_false_eq_true]<;>with_reducible rfl));(·simp only [go_sem]<;>with_reducible rfl))|(refine aL_skip ?_ (by simp only [go_sem]<;>with_reducible rfl) ?_;(·simp (disch:=omega) only [go_sem,seval,eX,eq_self_iff_true,decide_true,decide_false,not_true_eq_false,not_false_eq_true]))|(refine aC_condT ?_ ?_;(·simp (disch:=omega) only [go_sem,seval,eX,eq_self_iff_true,decide_true,decide_false,not_true_eq_false,not_false_eq_true]))|(refine aC_condF ?_ ?_;(·simp (disch:=omega) only [go_sem,seval,eX,eq_self_iff_true,decide_true,decide_false,not_true_eq_false,not_false_eq_true]))|(apply aL_pK cxG (m2);(iterate 2 (·simp (disch:=omega) only [go_sem,seval,eX,eq_self_iff_true,decide_true,decide_false,not_true_eq_false,not_false_eq_true]<;>with_reducible rfl));(·simp only [go_sem]<;>with_reducible rfl);(·simp))|(apply aL_pK cxG (i2);(iterate 2 (·simp (disch:=omega) only [go_sem,seval,eX,eq_self_iff_true,decide_true,decide_false,not_true_eq_false,not_false_eq_true]<;>with_reducible rfl));(·simp only [go_sem]<;>with_reducible rfl);(·simp))|fail)
   all_goals try (first|exact True.intro|exact not_false|omega|(simp (disch:=omega) only [go_sem,seval]<;>omega))
   all_goals clear hu hc n1 n2 m2 m3 i2 i3 ux m4 i4
   all_goals first
    |exact ⟨1,⟨by omega,by intro _;first|(exfalso;omega)|assumption|(simp [eX];done),by intro _;first|(exfalso;omega)|assumption|(simp [eX];done),by intro _;first|(exfalso;omega)|assumption|(simp [eX];done)⟩,Sub.of_all (by simp [Fr.get]),rfl,by omega⟩
    |(simp (disch:=omega) only [go_sem,seval];done)
    |(simp (disch:=omega) only [go_sem,seval];simp [eX];done)
    |(simp [eX];done)
  ·have e1:=h1 (by omega);clear h1 h2 h3
   cases q3
   all_goals by_cases eX:X3=s
   all_goals
   repeat' (first|refine aC_seq ?_|refine aC_reg rfl ?_|refine aC_block ?_|refine aC_skip ?_|refine aC_ret ?_|refine thenQ_normal ?_|refine blockQ_normal ?_|refine thenQ_ret ?_|refine blockQ_ret ?_|refine aL_nil ?_|(apply aL_step;(·exact True.intro);(iterate 2 (·simp (disch:=omega) only [go_sem,seval,eX,eq_self_iff_true,decide_true,decide_false,not_true_eq_false,not_false_eq_true]<;>with_reducible rfl));(·simp only [go_sem]<;>with_reducible rfl))|(refine aL_skip ?_ (by simp only [go_sem]<;>with_reducible rfl) ?_;(·simp (disch:=omega) only [go_sem,seval,eX,eq_self_iff_true,decide_true,decide_false,not_true_eq_false,not_false_eq_true]))|(refine aC_condT ?_ ?_;(·simp (disch:=omega) only [go_sem,seval,eX,eq_self_iff_true,decide_true,decide_false,not_true_eq_false,not_false_eq_true]))|(refine aC_condF ?_ ?_;(·simp (disch:=omega) only [go_sem,seval,eX,eq_self_iff_true,decide_true,decide_false,not_true_eq_false,not_false_eq_true]))|(apply aL_pK cxG (m3);(iterate 2 (·simp (disch:=omega) only [go_sem,seval,eX,eq_self_iff_true,decide_true,decide_false,not_true_eq_false,not_false_eq_true]<;>with_reducible rfl));(·simp only [go_sem]<;>with_reducible rfl);(·simp))|(apply aL_pK cxG (i3);(iterate 2 (·simp (disch:=omega) only [go_sem,seval,eX,eq_self_iff_true,decide_true,decide_false,not_true_eq_false,not_false_eq_true]<;>with_reducible rfl));(·simp only [go_sem]<;>with_reducible rfl);(·simp))|fail)
   all_goals try (first|exact True.intro|exact not_false|omega|(simp (disch:=omega) only [go_sem,seval]<;>omega))
   all_goals clear hu hc n1 n2 m2 m3 i2 i3 ux m4 i4
   all_goals first
    |exact ⟨2,⟨by omega,by intro _;first|(exfalso;omega)|assumption|(simp [eX];done),by intro _;first|(exfalso;omega)|assumption|(simp [eX];done),by intro _;first|(exfalso;omega)|assumption|(simp [eX];done)⟩,Sub.of_all (by simp [Fr.get]),rfl,by omega⟩
    |(simp (disch:=omega) only [go_sem,seval];done)
    |(simp (disch:=omega) only [go_sem,seval];simp [eX,e1];done)
    |(simp [eX,e1];done)
  ·have e1:=h1 (by omega);have e2:=h2 (by omega);clear h1 h2 h3
   cases q4
   all_goals by_cases eX:X4=s
   all_goals
   repeat' (first|refine aC_seq ?_|refine aC_reg rfl ?_|refine aC_block ?_|refine aC_skip ?_|refine aC_ret ?_|refine thenQ_normal ?_|refine blockQ_normal ?_|refine thenQ_ret ?_|refine blockQ_ret ?_|refine aL_nil ?_|(apply aL_step;(·exact True.intro);(iterate 2 (·simp (disch:=omega) only [go_sem,seval,eX,eq_self_iff_true,decide_true,decide_false,not_true_eq_false,not_false_eq_true]<;>with_reducible rfl));(·simp only [go_sem]<;>with_reducible rfl))|(refine aL_skip ?_ (by simp only [go_sem]<;>with_reducible rfl) ?_;(·simp (disch:=omega) only [go_sem,seval,eX,eq_self_iff_true,decide_true,decide_false,not_true_eq_false,not_false_eq_true]))|(refine aC_condT ?_ ?_;(·simp (disch:=omega) only [go_sem,seval,eX,eq_self_iff_true,decide_true,decide_false,not_true_eq_false,not_false_eq_true]))|(refine aC_condF ?_ ?_;(·simp (disch:=omega) only [go_sem,seval,eX,eq_self_iff_true,decide_true,decide_false,not_true_eq_false,not_false_eq_true]))|(apply aL_pK cxG (m4);(iterate 2 (·simp (disch:=omega) only [go_sem,seval,eX,eq_self_iff_true,decide_true,decide_false,not_true_eq_false,not_false_eq_true]<;>with_reducible rfl));(·simp only [go_sem]<;>with_reducible rfl);(·simp))|(apply aL_pK cxG (i4);(iterate 2 (·simp (disch:=omega) only [go_sem,seval,eX,eq_self_iff_true,decide_true,decide_false,not_true_eq_false,not_false_eq_true]<;>with_reducible rfl));(·simp only [go_sem]<;>with_reducible rfl);(·simp))|fail)
   all_goals try (first|exact True.intro|exact not_false|omega|(simp (disch:=omega) only [go_sem,seval]<;>omega))
   all_goals clear hu hc n1 n2 m2 m3 i2 i3 ux m4 i4
   all_goals first
    |exact ⟨3,⟨by omega,by intro _;first|(exfalso;omega)|assumption|(simp [eX];done),by intro _;first|(exfalso;omega)|assumption|(simp [eX];done),by intro _;first|(exfalso;omega)|assumption|(simp [eX];done)⟩,Sub.of_all (by simp [Fr.get]),rfl,by omega⟩
    |(simp (disch:=omega) only [go_sem,seval];done)
    |(simp (disch:=omega) only [go_sem,seval];simp [eX,e1,e2];done)
    |(simp [eX,e1,e2];done)
  ·have e1:=h1 (by omega);have e2:=h2 (by omega);have e3:=h3 (by omega);clear h1 h2 h3
   repeat' (first|refine aC_seq ?_|refine aC_reg rfl ?_|refine aC_exit ?_|refine aC_ret ?_|refine thenQ_normal ?_|refine thenQ_exit ?_|refine blockQ_hit ?_|refine aL_nil ?_|(apply aL_step;(·exact True.intro);(iterate 2 (·simp (disch:=omega) only [go_sem,seval,eq_self_iff_true,decide_true,decide_false]<;>with_reducible rfl));(·simp only [go_sem]<;>with_reducible rfl))|(refine aC_condF ?_ ?_;(·simp (disch:=omega) only [go_sem,seval,eq_self_iff_true,decide_true,decide_false]))|fail)
   all_goals try (first|exact True.intro|exact not_false|omega|(simp (disch:=omega) only [go_sem,seval]<;>omega))
   all_goals clear hu hc n1 n2 m2 m3 i2 i3 ux m4 i4
   all_goals first
    |(simp (disch:=omega) only [go_sem,seval];done)
    |(simp (disch:=omega) only [go_sem,seval];simp [e1,e2,e3];done)
    |(simp [e1,e2,e3];done)
end
end Go.Am
end
section
namespace Go.Am
open Go Go.Proofs
set_option maxHeartbeats 8000000
set_option maxRecDepth 100000
section
attribute [local irreducible] aC aL thenQ blockQ scopeQ ALoop AWp
theorem ref_unline_call (s:List UInt8) (hs:s.length≤100000) (op:Int) (xs:List Nat) (h:IsCall s op xs) :
  APure cx 10 [.str s] (.tup [.agg (spC ⟨1,op,xs,0,0,[]⟩ true .any),.bool true]):=by
 have hu:=ref_Untext s (by omega) _ (.inl ⟨op,xs,h,rfl⟩)
 obtain ⟨x0,x1,x2,x3,x4,x5,rfl⟩:=six h.2.1
 simp only [spC_six,wl_six,bl_nil,nz] at *
 clear h
 refine pure_fnK cxOk Tryz.func10 (fun _=>false) (fe10.q) (by kernel_rfl) (by dsimp only [Tryz.f10,go_sem,seval,liteO,Option.map,List.map];exact .mk _) ?_
 dsimp only [Tryz.f10,frame0,List.zipIdx,List.map,Nat.reduceAdd]
 try simp only [List.getElem?_toArray,List.getElem?_cons_succ,List.getElem?_cons_zero,Option.bind_some]
 repeat' (first|refine aC_seq ?_|refine aC_reg rfl ?_|refine aC_ret ?_|refine thenQ_normal ?_|refine thenQ_ret ?_|refine aL_nil ?_|(apply aL_step;(·exact True.intro);(iterate 2 (·simp (disch:=omega) only [go_sem,seval]<;>with_reducible rfl));(·simp only [go_sem]<;>with_reducible rfl))|(refine aC_condT ?_ ?_;(·simp (disch:=omega) only [go_sem,seval]))|(apply aL_pK cxG (hu);(iterate 2 (·simp (disch:=omega) only [go_sem,seval]<;>with_reducible rfl));(·simp only [go_sem]<;>with_reducible rfl);(·simp))|fail)
 all_goals try (first|exact True.intro|exact not_false|omega|(simp (disch:=omega) only [go_sem,seval]<;>omega))
 all_goals clear hu
 all_goals try (simp (disch:=omega) only [go_sem,seval])
 all_goals try simp
theorem band_dec {p q:Prop} [Decidable p] [Decidable q] (h:¬ (p∧q)):(decide p&&decide q)=false:=by
 rw [← Bool.decide_and];exact decide_eq_false h
theorem band_dec1 {p q:Prop} [Decidable p] [Decidable q] (h:p∧q):(decide p&&decide q)=true:=by
 rw [← Bool.decide_and];exact decide_eq_true h
theorem ref_Unline (s:List UInt8) (hs:s.length≤100000) (r:AVal) (hr:(∃ st,IsStep s st∧r = .tup [.agg (spC st st.b.isEmpty .any),.bool true]) ∨
  ((∀ st,¬ IsStep s st)∧r = .tup [.agg (spC Sp.zero true .any),.bool false])):APure cx 10 [.str s] r:=by
 obtain ⟨k2,k3,k4⟩:=rc_ok s hs
 rcases hr with ⟨st,h,rfl⟩|⟨h,rfl⟩
 ·by_cases h1:st.k=1
  ·obtain ⟨hc,he⟩:=step_call h h1
   have:=ref_unline_call s hs _ _ hc
   rw [← he] at this
   have hb:st.b=[]:=by rw [he]
   rw [hb]
   exact this
  ·have hn:=step_nocall h h1
   refine ref_unline_cand s hs hn _ ?_
   by_cases b2:MayS (rc2 (pt s 1))∧lineS (rc2 (pt s 1))=s
   ·have e:rc2 (pt s 1)=st:=step_unique ⟨b2.1,k2,b2.2⟩ h (show (2:Int)≠1 by decide) h1
    rw [band_dec1 b2,cond_true,← e]
    rfl
   ·rw [band_dec b2,cond_false]
    by_cases b3:MayS (rc3 (pt s 1) (pt s 2))∧lineS (rc3 (pt s 1) (pt s 2))=s
    ·have e:rc3 (pt s 1) (pt s 2)=st:=step_unique ⟨b3.1,k3,b3.2⟩ h (show (3:Int)≠1 by decide) h1
     rw [band_dec1 b3,cond_true,← e]
     rfl
    ·rw [band_dec b3,cond_false]
     rcases ref_cand h h1 with e|e|⟨hg,e⟩
     ·exact absurd ⟨e▸h.1,e▸h.2.2⟩ b2
     ·exact absurd ⟨e▸h.1,e▸h.2.2⟩ b3
     ·have b4:MayS (rc4 (pt s 1))∧lineS (rc4 (pt s 1))=s:=⟨e▸h.1,e▸h.2.2⟩
      rw [hg,Bool.true_and,band_dec1 b4,cond_true,e]
      rfl
 ·have hn:∀ op xs,¬ IsCall s op xs:=fun op xs hc=>h _ (call_step hc)
  refine ref_unline_cand s hs hn _ ?_
  rw [band_dec fun q=>h _ ⟨q.1,k2,q.2⟩,cond_false,band_dec fun q=>h _ ⟨q.1,k3,q.2⟩,cond_false,Bool.and_assoc,band_dec fun q=>h _ ⟨q.1,k4,q.2⟩,Bool.and_false,cond_false]
end
end Go.Am
end
