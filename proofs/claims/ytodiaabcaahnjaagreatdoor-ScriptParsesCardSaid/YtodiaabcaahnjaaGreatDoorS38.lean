/- A setup's line, as the document finds it: plainly. -/
import Derived.Test.YtodiaabcaahnjaaGreatDoorS27
import Derived.Test.YtodiaabcaahnjaaGreatDoorAmFreshG
import Derived.Test.YtodiaabcaahnjaaGreatDoorS31
import Derived.Test.YtodiaabcaahnjaaGreatDoorS17
import Derived.Test.YtodiaabcaahnjaaGreatDoorS44
set_option linter.unusedVariables false
set_option linter.unusedSimpArgs false
section
namespace Go.Am
open Go Go.Proofs
set_option maxHeartbeats 8000000
set_option maxRecDepth 100000
def dgR (p:List UInt8):List UInt8:=if goodp p=true then (unpre p).take 32++List.replicate (32-(unpre p).length) 0 else List.replicate 32 0
def nmR (p:List UInt8):Nat:=rnum (p.take 20)
theorem dgR_len (p:List UInt8):(dgR p).length=32:=by
 unfold dgR
 split
 ·simp;omega
 ·simp
theorem dgR_hex (m:List UInt8) (h:m.length=32):dgR (hexl m)=m:=by
 obtain ⟨g1,g2,_⟩:=hexl_ok m
 unfold dgR
 rw [if_pos g1,g2,List.take_of_length_le (by omega),h]
 simp
theorem nmR_dec (n:Nat) (h:n<18446744073709551616):nmR (Lib.decDigits n)=n:=dec20 n h
theorem nmR_lt (p:List UInt8):nmR p<18446744073709551616:=rnum_lt _
theorem sl_pt {l:List UInt8} {x:Sl} (h:IsSl l x):pt l 1=match x with
  |.gran n=>Lib.decDigits n
  |.mode b=>[]
  |.master m=>hexl m
  |.draw m=>hexl m
  |.ent n=>Lib.decDigits n:=by
 obtain ⟨_,rfl⟩:=h
 have hd:∀ (w:List UInt8) (n:Nat),(32:UInt8) ∉ w→pt (w++32::Lib.decDigits n) 1=Lib.decDigits n:=fun w n hw=>by
  unfold pt
  rw [parts_hit 32 _ _ hw,parts_miss 32 _ (dec_cut n)]
  simp
 have hh:∀ (w m:List UInt8),(32:UInt8) ∉ w→pt (w++32::hexl m) 1=hexl m:=fun w m hw=>by
  unfold pt
  rw [parts_hit 32 _ _ hw,parts_miss 32 _ (hexl_ok m).2.2]
  simp
 cases x with
 |gran n=>simp only [Sl.text,numT_one];exact hd _ _ (by decide)
 |mode b =>
  simp only [Sl.text]
  unfold pt
  rw [parts_miss 32 _ (modeT_no b)]
  simp
 |master m=>exact hh _ _ (by decide)
 |draw m=>exact hh _ _ (by decide)
 |ent n=>simp only [Sl.text,entT,numT_one];exact hd _ _ (by decide)
def G0 (l:List UInt8):Prop:=1≤nmR (pt l 1)∧nmR (pt l 1)≤4096∧numT GRAN [nmR (pt l 1)]=l
def G1 (l:List UInt8):Prop:=l=IDEAL∨l=CONC
def G2 (l:List UInt8):Prop:=goodp (pt l 1)=true∧digT MASTER (dgR (pt l 1))=l
def G3 (l:List UInt8):Prop:=goodp (pt l 1)=true∧digT DRAW (dgR (pt l 1))=l
def G4 (l:List UInt8):Prop:=numT ENTR [nmR (pt l 1)]=l
instance (l:List UInt8):Decidable (G0 l):=by unfold G0;infer_instance
instance (l:List UInt8):Decidable (G1 l):=by unfold G1;infer_instance
instance (l:List UInt8):Decidable (G2 l):=by unfold G2;infer_instance
instance (l:List UInt8):Decidable (G3 l):=by unfold G3;infer_instance
instance (l:List UInt8):Decidable (G4 l):=by unfold G4;infer_instance
def rankR (l:List UInt8):Nat:=if G0 l then 0 else if G1 l then 1 else if G2 l then 2 else if G3 l then 3 else if G4 l then 4 else 5
theorem g0_is {l:List UInt8} (h:G0 l):IsSl l (.gran (nmR (pt l 1))):=⟨⟨h.1,h.2.1⟩,h.2.2⟩
theorem g1_is {l:List UInt8} (h:G1 l):IsSl l (.mode (decide (l=IDEAL))):=by
 rcases h with rfl|rfl
 ·exact ⟨trivial,by decide⟩
 ·exact ⟨trivial,by decide⟩
theorem g2_is {l:List UInt8} (h:G2 l):IsSl l (.master (dgR (pt l 1))):=⟨dgR_len _,h.2⟩
theorem g3_is {l:List UInt8} (h:G3 l):IsSl l (.draw (dgR (pt l 1))):=⟨dgR_len _,h.2⟩
theorem g4_is {l:List UInt8} (h:G4 l):IsSl l (.ent (nmR (pt l 1))):=⟨nmR_lt _,h⟩
theorem is_g {l:List UInt8} {x:Sl} (h:IsSl l x):match x with
  |.gran n=>G0 l∧n=nmR (pt l 1)
  |.mode b=>G1 l∧b=decide (l=IDEAL)
  |.master m=>G2 l∧m=dgR (pt l 1)
  |.draw m=>G3 l∧m=dgR (pt l 1)
  |.ent n=>G4 l∧n=nmR (pt l 1):=by
 have hp:=sl_pt h
 obtain ⟨ho,ht⟩:=h
 cases x with
 |gran n =>
  simp only at hp
  have e:nmR (pt l 1)=n:=by rw [hp];exact nmR_dec n (by have:=ho.2;omega)
  exact ⟨⟨by rw [e];exact ho.1,by rw [e];exact ho.2,by rw [e];exact ht⟩,e.symm⟩
 |mode b =>
  subst ht
  cases b
  ·exact ⟨.inr rfl,by decide⟩
  ·exact ⟨.inl rfl,by decide⟩
 |master m =>
  simp only at hp
  have e:dgR (pt l 1)=m:=by rw [hp];exact dgR_hex m ho
  exact ⟨⟨by rw [hp];exact (hexl_ok m).1,by rw [e];exact ht⟩,e.symm⟩
 |draw m =>
  simp only at hp
  have e:dgR (pt l 1)=m:=by rw [hp];exact dgR_hex m ho
  exact ⟨⟨by rw [hp];exact (hexl_ok m).1,by rw [e];exact ht⟩,e.symm⟩
 |ent n =>
  simp only at hp
  have e:nmR (pt l 1)=n:=by rw [hp];exact nmR_dec n ho
  exact ⟨by unfold G4;rw [e];exact ht,e.symm⟩
theorem rankR_is {l:List UInt8} {x:Sl} (h:IsSl l x):rankR l=x.rank:=by
 have hg:=is_g h
 unfold rankR
 split
 case isTrue k=>rw [sl_unique h (g0_is k)];rfl
 case isFalse k0 =>
  split
  case isTrue k=>rw [sl_unique h (g1_is k)];rfl
  case isFalse k1 =>
   split
   case isTrue k=>rw [sl_unique h (g2_is k)];rfl
   case isFalse k2 =>
    split
    case isTrue k=>rw [sl_unique h (g3_is k)];rfl
    case isFalse k3 =>
     split
     case isTrue k=>rw [sl_unique h (g4_is k)];rfl
     case isFalse k4 =>
      cases x with
      |gran n=>exact absurd hg.1 k0
      |mode b=>exact absurd hg.1 k1
      |master m=>exact absurd hg.1 k2
      |draw m=>exact absurd hg.1 k3
      |ent n=>exact absurd hg.1 k4
theorem rankR_no {l:List UInt8} (h:∀ x,¬ IsSl l x):rankR l=5:=by
 unfold rankR
 rw [if_neg (fun k=>h _ (g0_is k)),if_neg (fun k=>h _ (g1_is k)),if_neg (fun k=>h _ (g2_is k)),if_neg (fun k=>h _ (g3_is k)),if_neg (fun k=>h _ (g4_is k))]
end Go.Am
end
section
namespace Go.Am
open Go Go.Proofs
set_option maxHeartbeats 8000000
set_option maxRecDepth 100000
section
attribute [local irreducible] aC aL thenQ blockQ scopeQ ALoop AWp
theorem ref_Split (s:List UInt8) (L:List (List UInt8)) (rest:List UInt8) (hs:s.length≤4194304) (hp:parts s [10]=L++[rest]):APure cx 43 [.str s] (.tup [.sl 1 L.isEmpty (L.map .str) .any,.str rest]):=by
 have hc:=cutA_parts 10 s.length s (Nat.le_refl _)
 rw [hp] at hc
 clear hp
 refine pure_fnK cxOk Tryz.func43 (fun _=>false) (fun _=>none) (by kernel_rfl) (by dsimp only [Tryz.f43,go_sem,seval,liteO,Option.map,List.map];exact .mk _) ?_
 dsimp only [Tryz.f43,frame0,List.zipIdx,List.map,Nat.reduceAdd]
 try simp only [List.getElem?_toArray,List.getElem?_cons_succ,List.getElem?_cons_zero,Option.bind_some]
 repeat' (first|refine aC_seq ?_|refine aC_reg rfl ?_|refine aC_block ?_|refine aC_loop ?_|refine thenQ_normal ?_|refine aL_nil ?_|(apply aL_step;(·exact True.intro);(iterate 2 (·simp (disch:=omega) only [go_sem,seval]<;>with_reducible rfl));(·simp only [go_sem]<;>with_reducible rfl))|fail)
 ·refine loop_rule (cxOk.wp _ _) (σ:=Nat × Nat × List (List UInt8)) (fun x=>[(4,.sl 1 x.2.2.isEmpty (x.2.2.map .str) (.grow 0)),(5,.int .i64 x.2.1),(6,.int .i64 x.1),(0,.str s)])
   (fun x=>[.grow x.2.2.length 1 9]) (fun x=>s.length-x.1) (fun x=>x.2.2.length≤x.1∧x.1≤s.length∧x.2.1≤x.1∧cutA 10 [] s=x.2.2++cutA 10 ((s.take x.1).drop x.2.1) (s.drop x.1))
   (0,0,[]) (GStep.nil 4 1 9 rfl) ⟨⟨Nat.le_refl _,Nat.zero_le _,Nat.le_refl _,by simp⟩,Sub.of_all (by simp [Fr.get,frame0]),by simp⟩ ?_
  rintro ⟨i,at_,M⟩ ⟨hLi,h1,h2,h3⟩
  simp only at hLi h1 h2 h3 ⊢
  by_cases hlt:i<s.length
  ·have hd:s.drop i=s[i]::s.drop (i+1):=List.drop_eq_getElem_cons hlt
   have hg:s.getD i 0=s[i]:=by simp [List.getD,hlt]
   have ht:(s.take (i+1)).drop at_=(s.take i).drop at_++[s[i]]:=by
    rw [List.take_succ_eq_append_getElem hlt,List.drop_append_of_le_length (by simp;omega)]
   rw [hd] at h3
   simp only [cutA] at h3
   by_cases h32:s[i]=10
   ·rw [if_pos h32] at h3
    repeat' (first|refine aC_seq ?_|refine aC_reg rfl ?_|refine aC_block ?_|refine aC_skip ?_|refine thenQ_normal ?_|refine blockQ_normal ?_|refine aL_nil ?_|(apply aL_step;(·exact True.intro);(iterate 2 (·simp (disch:=omega) only [go_sem,seval,hg,h32,show (((10:UInt8).toNat:Nat):Int)=10 from rfl,eq_self_iff_true,decide_true]<;>with_reducible rfl));(·simp only [go_sem]<;>with_reducible rfl))|(refine aC_condT ?_ ?_;(·simp (disch:=omega) only [go_sem,seval,hg,h32,show (((10:UInt8).toNat:Nat):Int)=10 from rfl,eq_self_iff_true,decide_true]))|(refine aC_condP (by simp (disch:=omega) only [go_sem,seval,hg,h32,show (((10:UInt8).toNat:Nat):Int)=10 from rfl,eq_self_iff_true,decide_true]<;>with_reducible rfl) ?_ ?_<;>(intro h;first|(exfalso;omega)|skip))|fail)
    all_goals try (first|exact True.intro|exact not_false|omega|(simp (disch:=omega) only [go_sem,seval]<;>omega))
    all_goals exact ⟨(i+1,i+1,M++[(s.take i).drop at_]),⟨by simp;omega,by simp;omega,Nat.le_refl _,by rw [h3];simp⟩,Sub.of_all (by simp [Fr.get]),by simp,by simp;omega⟩
   ·rw [if_neg h32,← ht] at h3
    have hne:¬ ((s[i].toNat:Int)=10):=fun e=>h32 (UInt8.toNat_inj.1 (by rw [show (10:UInt8).toNat=10 from rfl];omega))
    repeat' (first|refine aC_seq ?_|refine aC_reg rfl ?_|refine aC_block ?_|refine aC_skip ?_|refine thenQ_normal ?_|refine blockQ_normal ?_|refine aL_nil ?_|(apply aL_step;(·exact True.intro);(iterate 2 (·simp (disch:=omega) only [go_sem,seval,hg,hne,decide_false]<;>with_reducible rfl));(·simp only [go_sem]<;>with_reducible rfl))|(refine aC_condF ?_ ?_;(·simp (disch:=omega) only [go_sem,seval,hg,hne,decide_false]))|(refine aC_condP (by simp (disch:=omega) only [go_sem,seval,hg,hne,decide_false]<;>with_reducible rfl) ?_ ?_<;>(intro h;first|(exfalso;omega)|skip))|fail)
    all_goals try (first|exact True.intro|exact not_false|omega|(simp (disch:=omega) only [go_sem,seval]<;>omega))
    all_goals exact ⟨(i+1,at_,M),⟨by simp;omega,by simp;omega,by simp;omega,h3⟩,Sub.of_all (by simp [Fr.get]),rfl,by simp;omega⟩
  ·have hi:i=s.length:=by omega
   subst hi
   have e:M=L∧s.drop at_=rest:=by
    rw [hc] at h3
    rw [List.drop_length,List.take_length] at h3
    simp only [cutA] at h3
    have:=List.append_inj' h3 rfl
    exact ⟨this.1.symm,(List.cons.inj this.2).1.symm⟩
   obtain ⟨rfl,rfl⟩:=e
   repeat' (first|refine aC_seq ?_|refine aC_reg rfl ?_|refine aC_exit ?_|refine aC_ret ?_|refine thenQ_normal ?_|refine thenQ_exit ?_|refine blockQ_hit ?_|refine aL_nil ?_|(apply aL_step;(·exact True.intro);(iterate 2 (·simp (disch:=omega) only [go_sem,seval]<;>with_reducible rfl));(·simp only [go_sem]<;>with_reducible rfl))|(refine aC_condP (by simp (disch:=omega) only [go_sem,seval]<;>with_reducible rfl) ?_ ?_<;>(intro h;first|(exfalso;omega)|skip))|fail)
   all_goals try (first|exact True.intro|exact not_false|omega|(simp (disch:=omega) only [go_sem,seval]<;>omega))
   all_goals try (simp (disch:=omega) only [go_sem,seval])
   all_goals try simp
   all_goals try omega
 all_goals first|trivial|omega
theorem put_dg (u:List UInt8):putCells (bl (List.replicate 32 0)) 0 (bl (u.take 32))=bl (u.take 32++List.replicate (32-u.length) 0):=by
 have hb:∀ (a b:List UInt8),bl (a++b)=bl a++bl b:=fun a b=>by simp [bl]
 rw [putCells_eq _ _ _ (by rw [length_bl,length_bl];simp;omega),length_bl,hb]
 simp only [List.take_zero,List.nil_append,Nat.zero_add]
 congr 1
 unfold bl
 rw [← List.map_drop,List.drop_replicate,List.length_take]
 congr 2
 omega
theorem ref_Rank (s:List UInt8) (hs:s.length≤100000):APure cx 44 [.str s] (.int .i64 (rankR s:Nat)):=by
 have hc:=ref_cutG s (by omega)
 have l1:=pt_len s 1
 have n1:=ref_number25 (pt s 1) (by omega)
 have ux:=ref_unhex (pt s 1) (by omega)
 have hx:rnum ((pt s 1).take 20)<18446744073709551616:=nmR_lt _
 have q0:=ref_n GRAN false [rnum ((pt s 1).take 20)] (by simp) (by decide) (by simpa using hx)
 have q4:=ref_n ENTR false [rnum ((pt s 1).take 20)] (by simp) (by decide) (by simpa using hx)
 have q2:=ref_digest MASTER (dgR (pt s 1)) (by decide) (dgR_len _)
 have q3:=ref_digest DRAW (dgR (pt s 1)) (by decide) (dgR_len _)
 obtain ⟨w0,wr,hw,hwl⟩:=parts_len s [32] (by decide)
 have hLn:1≤((parts s [32]).map AVal.str).length∧((parts s [32]).map AVal.str).length≤s.length+1:=by rw [hw];simp;omega
 have g1:((parts s [32]).map AVal.str++[AVal.str []]).getD 1 .any = .str (pt s 1):=by
  have:pt s 1=((w0::wr)++[[],[]]:List (List UInt8)).getD 1 []:=by unfold pt;rw [hw]
  rw [this,hw]
  cases wr<;>rfl
 have hul:=unpre_le (pt s 1)
 obtain ⟨r,hr⟩ : ∃ r,r=(AVal.int .i64 (rankR s:Nat)):=⟨_,rfl⟩
 rw [← hr]
 have f0:1≤nmR (pt s 1)∧nmR (pt s 1)≤4096∧numT GRAN [nmR (pt s 1)]=s→r = .int .i64 0:=fun h0=>by
  have h0:G0 s:=h0
  rw [hr];unfold rankR;rw [if_pos h0];rfl
 have f1:¬ (1≤nmR (pt s 1)∧nmR (pt s 1)≤4096∧numT GRAN [nmR (pt s 1)]=s)→(s=IDEAL∨s=CONC)→r = .int .i64 1:=fun h0 h1=>by
  have h0:¬ G0 s:=h0
  have h1:G1 s:=h1
  rw [hr];unfold rankR;rw [if_neg h0,if_pos h1];rfl
 have f2:¬ (1≤nmR (pt s 1)∧nmR (pt s 1)≤4096∧numT GRAN [nmR (pt s 1)]=s)→¬ (s=IDEAL∨s=CONC)→(goodp (pt s 1)=true∧digT MASTER (dgR (pt s 1))=s)→r = .int .i64 2:=fun h0 h1 h2=>by
  have h0:¬ G0 s:=h0
  have h1:¬ G1 s:=h1
  have h2:G2 s:=h2
  rw [hr];unfold rankR;rw [if_neg h0,if_neg h1,if_pos h2];rfl
 have f3:¬ (1≤nmR (pt s 1)∧nmR (pt s 1)≤4096∧numT GRAN [nmR (pt s 1)]=s)→¬ (s=IDEAL∨s=CONC)→¬ (goodp (pt s 1)=true∧digT MASTER (dgR (pt s 1))=s)→(goodp (pt s 1)=true∧digT DRAW (dgR (pt s 1))=s)→r = .int .i64 3:=fun h0 h1 h2 h3=>by
  have h0:¬ G0 s:=h0
  have h1:¬ G1 s:=h1
  have h2:¬ G2 s:=h2
  have h3:G3 s:=h3
  rw [hr];unfold rankR;rw [if_neg h0,if_neg h1,if_neg h2,if_pos h3];rfl
 have f4:¬ (1≤nmR (pt s 1)∧nmR (pt s 1)≤4096∧numT GRAN [nmR (pt s 1)]=s)→¬ (s=IDEAL∨s=CONC)→¬ (goodp (pt s 1)=true∧digT MASTER (dgR (pt s 1))=s)→¬ (goodp (pt s 1)=true∧digT DRAW (dgR (pt s 1))=s)→numT ENTR [nmR (pt s 1)]=s→r = .int .i64 4:=fun h0 h1 h2 h3 h4=>by
  have h0:¬ G0 s:=h0
  have h1:¬ G1 s:=h1
  have h2:¬ G2 s:=h2
  have h3:¬ G3 s:=h3
  have h4:G4 s:=h4
  rw [hr];unfold rankR;rw [if_neg h0,if_neg h1,if_neg h2,if_neg h3,if_pos h4];rfl
 have f5:¬ (1≤nmR (pt s 1)∧nmR (pt s 1)≤4096∧numT GRAN [nmR (pt s 1)]=s)→¬ (s=IDEAL∨s=CONC)→¬ (goodp (pt s 1)=true∧digT MASTER (dgR (pt s 1))=s)→¬ (goodp (pt s 1)=true∧digT DRAW (dgR (pt s 1))=s)→¬ numT ENTR [nmR (pt s 1)]=s→r = .int .i64 5:=fun h0 h1 h2 h3 h4=>by
  have h0:¬ G0 s:=h0
  have h1:¬ G1 s:=h1
  have h2:¬ G2 s:=h2
  have h3:¬ G3 s:=h3
  have h4:¬ G4 s:=h4
  rw [hr];unfold rankR;rw [if_neg h0,if_neg h1,if_neg h2,if_neg h3,if_neg h4];rfl
 clear hr
 unfold nmR at *
 have hd:dgR (pt s 1)=if goodp (pt s 1)=true then (unpre (pt s 1)).take 32++List.replicate (32-(unpre (pt s 1)).length) 0 else List.replicate 32 0:=rfl
 have hdl:=dgR_len (pt s 1)
 clear hw hwl
 generalize hLL:(parts s [32]).map AVal.str=LL at *
 generalize dgR (pt s 1)=D at *
 generalize pt s 1=p1 at *
 generalize rnum (p1.take 20)=x at *
 generalize unpre p1=u at *
 generalize goodp p1=gp at *
 generalize numT GRAN [x]=T0 at *
 generalize numT ENTR [x]=T4 at *
 generalize digT MASTER D=T2 at *
 generalize digT DRAW D=T3 at *
 rw [← wl_one] at q0 q4
 unfold GRAN at q0
 unfold ENTR at q4
 unfold MASTER at q2
 unfold DRAW at q3
 unfold IDEAL CONC at *
 cases gp
 ·simp only [Bool.false_eq_true,if_false,false_and,not_false_eq_true,forall_const,true_implies,false_implies] at ux f2 f3 f4 f5 hd
  subst hd
  refine pure_fnK cxOk Tryz.func44 (fun _=>false) (fe44.q) (by kernel_rfl) (by dsimp only [Tryz.f44,go_sem,seval,liteO,Option.map,List.map];exact .mk _) ?_
  dsimp only [Tryz.f44,frame0,List.zipIdx,List.map,Nat.reduceAdd]
  try simp only [List.getElem?_toArray,List.getElem?_cons_succ,List.getElem?_cons_zero,Option.bind_some]
  repeat' (first|refine aC_seq ?_|refine aC_reg rfl ?_|refine aC_block ?_|refine aC_skip ?_|refine aC_ret ?_|refine thenQ_normal ?_|refine blockQ_normal ?_|refine thenQ_ret ?_|refine blockQ_ret ?_|refine aL_nil ?_|(apply aL_step;(·exact True.intro);(iterate 2 (·simp (disch:=omega) only [go_sem,seval,g1]<;>with_reducible rfl));(·simp only [go_sem]<;>with_reducible rfl))|(refine aL_skip ?_ (by simp only [go_sem]<;>with_reducible rfl) ?_;(·simp (disch:=omega) only [go_sem,seval,g1]))|(apply aL_guardN;(·simp (disch:=omega) only [go_sem,seval,g1]<;>with_reducible rfl);all_goals (intro h;first|(exfalso;omega)|(simp only [h,decide_true,decide_false,not_true,not_false_iff])))|(apply aL_guardP;(·simp (disch:=omega) only [go_sem,seval,g1]<;>with_reducible rfl);all_goals (intro h;first|(exfalso;omega)|(simp only [h,decide_true,decide_false,not_true,not_false_iff])))|(refine aC_condT ?_ ?_;(·simp (disch:=omega) only [go_sem,seval,g1]))|(refine aC_condF ?_ ?_;(·simp (disch:=omega) only [go_sem,seval,g1]))|(refine aC_condP (by simp (disch:=omega) only [go_sem,seval,g1]<;>with_reducible rfl) ?_ ?_<;>(intro h;first|(exfalso;omega)|skip))|(apply aL_aK ((hc _));(·rfl);(iterate 2 (·simp (disch:=omega) only [go_sem,seval,g1]<;>with_reducible rfl));(·simp only [go_sem]<;>with_reducible rfl))|(apply aL_pK cxG (ux);(iterate 2 (·simp (disch:=omega) only [go_sem,seval,g1]<;>with_reducible rfl));(·simp only [go_sem]<;>with_reducible rfl);(·simp))|(apply aL_pK cxG (n1);(iterate 2 (·simp (disch:=omega) only [go_sem,seval,g1]<;>with_reducible rfl));(·simp only [go_sem]<;>with_reducible rfl);(·simp))|(apply aL_pK cxG (q0);(iterate 2 (·simp (disch:=omega) only [go_sem,seval,g1]<;>with_reducible rfl));(·simp only [go_sem]<;>with_reducible rfl);(·simp))|(apply aL_pK cxG (q4);(iterate 2 (·simp (disch:=omega) only [go_sem,seval,g1]<;>with_reducible rfl));(·simp only [go_sem]<;>with_reducible rfl);(·simp))|fail)
  all_goals try (first|exact True.intro|exact not_false|omega|(simp (disch:=omega) only [go_sem,seval]<;>omega))
  all_goals clear hc ux n1 q0 q4 q2 q3
  all_goals
   first
   |(have e:=f0 ⟨by omega,by omega,by assumption⟩;subst e)
   |(have e:=f1 (by rintro ⟨a,b,c⟩;first|omega|exact absurd c (by assumption)) (by first|exact .inl rfl|exact .inr rfl|exact .inl (by assumption)|exact .inr (by assumption));subst e)
   |(have e:=f4 (by rintro ⟨a,b,c⟩;first|omega|exact absurd c (by assumption)) (not_or.2 ⟨by assumption,by assumption⟩) (by assumption);subst e)
   |(have e:=f5 (by rintro ⟨a,b,c⟩;first|omega|exact absurd c (by assumption)) (not_or.2 ⟨by assumption,by assumption⟩) (by assumption);subst e)
  all_goals try (simp (disch:=omega) only [go_sem,seval])
  all_goals try simp
 ·simp only [if_true,true_and] at ux f2 f3 f4 f5 hd
  refine pure_fnK cxOk Tryz.func44 (fun _=>false) (fe44.q) (by kernel_rfl) (by dsimp only [Tryz.f44,go_sem,seval,liteO,Option.map,List.map];exact .mk _) ?_
  dsimp only [Tryz.f44,frame0,List.zipIdx,List.map,Nat.reduceAdd]
  try simp only [List.getElem?_toArray,List.getElem?_cons_succ,List.getElem?_cons_zero,Option.bind_some]
  have hpc:putCells (bl [0,0,0,0,0,0,0,0,0,0,0,0,0,0,0,0,0,0,0,0,0,0,0,0,0,0,0,0,0,0,0,0]) 0 (bl (u.take 32))=bl D:=by
   rw [hd];exact put_dg u
  repeat' (first|refine aC_seq ?_|refine aC_reg rfl ?_|refine aC_block ?_|refine aC_skip ?_|refine aC_ret ?_|refine thenQ_normal ?_|refine blockQ_normal ?_|refine thenQ_ret ?_|refine blockQ_ret ?_|refine aL_nil ?_|(apply aL_step;(·exact True.intro);(iterate 2 (·simp (disch:=omega) only [go_sem,seval,g1,hpc]<;>with_reducible rfl));(·simp only [go_sem]<;>with_reducible rfl))|(refine aL_skip ?_ (by simp only [go_sem]<;>with_reducible rfl) ?_;(·simp (disch:=omega) only [go_sem,seval,g1,hpc]))|(apply aL_guardN;(·simp (disch:=omega) only [go_sem,seval,g1,hpc]<;>with_reducible rfl);all_goals (intro h;first|(exfalso;omega)|(simp only [h,decide_true,decide_false,not_true,not_false_iff])))|(apply aL_guardP;(·simp (disch:=omega) only [go_sem,seval,g1,hpc]<;>with_reducible rfl);all_goals (intro h;first|(exfalso;omega)|(simp only [h,decide_true,decide_false,not_true,not_false_iff])))|(refine aC_condT ?_ ?_;(·simp (disch:=omega) only [go_sem,seval,g1,hpc]))|(refine aC_condF ?_ ?_;(·simp (disch:=omega) only [go_sem,seval,g1,hpc]))|(refine aC_condP (by simp (disch:=omega) only [go_sem,seval,g1,hpc]<;>with_reducible rfl) ?_ ?_<;>(intro h;first|(exfalso;omega)|skip))|(apply aL_aK ((hc _));(·rfl);(iterate 2 (·simp (disch:=omega) only [go_sem,seval,g1,hpc]<;>with_reducible rfl));(·simp only [go_sem]<;>with_reducible rfl))|(apply aL_pK cxG (ux);(iterate 2 (·simp (disch:=omega) only [go_sem,seval,g1,hpc]<;>with_reducible rfl));(·simp only [go_sem]<;>with_reducible rfl);(·simp))|(apply aL_pK cxG (n1);(iterate 2 (·simp (disch:=omega) only [go_sem,seval,g1,hpc]<;>with_reducible rfl));(·simp only [go_sem]<;>with_reducible rfl);(·simp))|(apply aL_pK cxG (q0);(iterate 2 (·simp (disch:=omega) only [go_sem,seval,g1,hpc]<;>with_reducible rfl));(·simp only [go_sem]<;>with_reducible rfl);(·simp))|(apply aL_pK cxG (q4);(iterate 2 (·simp (disch:=omega) only [go_sem,seval,g1,hpc]<;>with_reducible rfl));(·simp only [go_sem]<;>with_reducible rfl);(·simp))|(apply aL_pK cxG (q2);(iterate 2 (·simp (disch:=omega) only [go_sem,seval,g1,hpc]<;>with_reducible rfl));(·simp only [go_sem]<;>with_reducible rfl);(·simp))|(apply aL_pK cxG (q3);(iterate 2 (·simp (disch:=omega) only [go_sem,seval,g1,hpc]<;>with_reducible rfl));(·simp only [go_sem]<;>with_reducible rfl);(·simp))|fail)
  all_goals try (first|exact True.intro|exact not_false|omega|(simp (disch:=omega) only [go_sem,seval]<;>omega))
  all_goals clear hc ux n1 q0 q4 q2 q3
  all_goals
   first
   |(have e:=f0 ⟨by omega,by omega,by assumption⟩;subst e)
   |(have e:=f1 (by rintro ⟨a,b,c⟩;first|omega|exact absurd c (by assumption)) (by first|exact .inl rfl|exact .inr rfl|exact .inl (by assumption)|exact .inr (by assumption));subst e)
   |(have e:=f2 (by rintro ⟨a,b,c⟩;first|omega|exact absurd c (by assumption)) (not_or.2 ⟨by assumption,by assumption⟩) (by assumption);subst e)
   |(have e:=f3 (by rintro ⟨a,b,c⟩;first|omega|exact absurd c (by assumption)) (not_or.2 ⟨by assumption,by assumption⟩) (by assumption) (by assumption);subst e)
   |(have e:=f4 (by rintro ⟨a,b,c⟩;first|omega|exact absurd c (by assumption)) (not_or.2 ⟨by assumption,by assumption⟩) (by assumption) (by assumption) (by assumption);subst e)
   |(have e:=f5 (by rintro ⟨a,b,c⟩;first|omega|exact absurd c (by assumption)) (not_or.2 ⟨by assumption,by assumption⟩) (by assumption) (by assumption) (by assumption);subst e)
  all_goals try (simp (disch:=omega) only [go_sem,seval])
  all_goals try simp
end
end Go.Am
end
section
namespace Go.Am
open Go Go.Proofs
set_option maxHeartbeats 8000000
set_option maxRecDepth 100000
section
attribute [local irreducible] aC aL thenQ blockQ scopeQ ALoop AWp
theorem ref_Take_k (k:Nat) (s:List UInt8) (hs:s.length≤100000) (q:Su) (hq:q.m.length=32) (nd ne:Bool) (hnd:nd=true→q.d=[]) (hne:ne=true→q.e=[]) (hld:q.d.length≤100000) (hle:q.e.length≤100000) (hk:rankR s=k) (hk5:k≤5) (r:AVal)
  (hr:r=if k=3∧4096≤q.d.length∨k=4∧4096≤q.e.length then .tup [.agg zeroC,.int .i64 3]
   else if k=5 then .tup [.agg zeroC,.int .i64 4]
   else if k=0 then .tup [.agg (suC { q with g:=(nmR (pt s 1):Nat) } q.d.isEmpty q.e.isEmpty),.int .i64 0]
   else if k=1 then .tup [.agg (suC { q with i:=decide (s=IDEAL) } q.d.isEmpty q.e.isEmpty),.int .i64 0]
   else if k=2 then .tup [.agg (suC { q with m:=dgR (pt s 1) } q.d.isEmpty q.e.isEmpty),.int .i64 0]
   else if k=3 then .tup [.agg (suC { q with d:=q.d++[dgR (pt s 1)] } false q.e.isEmpty),.int .i64 0]
   else .tup [.agg (suC { q with e:=q.e++[nmR (pt s 1)] } q.d.isEmpty false),.int .i64 0]) :
  APure cx 45 [.agg (suC q nd ne),.str s] r:=by
 have hc:=ref_cutG s (by omega)
 have l1:=pt_len s 1
 have n1:=ref_number25 (pt s 1) (by omega)
 have ux:=ref_unhex (pt s 1) (by omega)
 have hx:rnum ((pt s 1).take 20)<18446744073709551616:=nmR_lt _
 have hrk:=ref_Rank s hs
 rw [hk] at hrk
 obtain ⟨w0,wr,hw,hwl⟩:=parts_len s [32] (by decide)
 have hLn:1≤((parts s [32]).map AVal.str).length∧((parts s [32]).map AVal.str).length≤s.length+1:=by rw [hw];simp;omega
 have g1:((parts s [32]).map AVal.str++[AVal.str []]).getD 1 .any = .str (pt s 1):=by
  have:pt s 1=((w0::wr)++[[],[]]:List (List UInt8)).getD 1 []:=by unfold pt;rw [hw]
  rw [this,hw]
  cases wr<;>rfl
 have hul:=unpre_le (pt s 1)
 have hub:∃ (nl ok:Bool) (B:List UInt8),B.length≤100000∧APure cx 37 [.str (pt s 1)] (.tup [.sl 1 nl (bl B) .any,.bool ok])∧putCells (bl (List.replicate 32 0)) 0 (bl (B.take 32))=bl (dgR (pt s 1)):=by
  by_cases hg:goodp (pt s 1)=true
  ·rw [if_pos hg] at ux
   refine ⟨_,_,_,by omega,ux,?_⟩
   rw [put_dg];unfold dgR;rw [if_pos hg]
  ·rw [if_neg hg] at ux
   refine ⟨_,_,[],by decide,ux,?_⟩
   rw [put_dg];unfold dgR;rw [if_neg hg];rfl
 obtain ⟨nl,ok,B,hB,ux,hpc⟩:=hub
 have hdl:=dgR_len (pt s 1)
 have hnum:k=0→nmR (pt s 1)≤4096:=fun h=>by
  subst h
  unfold rankR at hk
  split at hk
  case isTrue h=>exact h.2.1
  case isFalse h =>
   exfalso
   repeat' split at hk
   all_goals cases hk
 clear hw hwl hk
 unfold nmR at *
 generalize hLL:(parts s [32]).map AVal.str=LL at *
 generalize dgR (pt s 1)=D at *
 generalize pt s 1=p1 at *
 generalize rnum (p1.take 20)=x at *
 clear hul
 obtain ⟨g,i,m,d,e⟩:=q
 unfold suC zeroC at *
 unfold IDEAL at hr
 simp only at *
 have hkk:k=0∨k=1∨k=2∨k=3∨k=4∨k=5:=by omega
 have hnb:nl=true∨nl=false:=by cases nl<;>simp
 rcases hkk with rfl|rfl|rfl|rfl|rfl|rfl
 all_goals simp at hr
 all_goals simp only [List.replicate] at hpc
 ·have hx4:=hnum rfl
  subst hr
  refine pure_fnD cxOk Tryz.func45 (fun _=>false) (fe45.q) (by kernel_rfl) (by dsimp only [Tryz.f45,go_sem,seval,liteO,Option.map,List.map];exact .mk _) ?_
  dsimp only [Tryz.f45,frame0,List.zipIdx,List.map,Nat.reduceAdd]
  try simp only [List.getElem?_toArray,List.getElem?_cons_succ,List.getElem?_cons_zero,Option.bind_some]
  repeat' (first|refine aC_seq ?_|refine aC_reg rfl ?_|refine aC_block ?_|refine aC_ret ?_|refine thenQ_normal ?_|refine blockQ_normal ?_|refine aL_nil ?_|(apply aL_step;(·exact True.intro);(iterate 2 (·simp (disch:=first|omega|(simp only [go_sem];omega)) only [go_sem,seval,g1,hpc,hq,hdl,drop32 hq,set32 hq,take32 hq]<;>with_reducible rfl));(·simp only [go_sem]<;>with_reducible rfl))|(refine aC_condT ?_ ?_;(·simp (disch:=first|omega|(simp only [go_sem];omega)) only [go_sem,seval,g1,hpc,hq,hdl,drop32 hq,set32 hq,take32 hq]))|(apply aL_aK ((hc _));(·rfl);(iterate 2 (·simp (disch:=first|omega|(simp only [go_sem];omega)) only [go_sem,seval,g1,hpc,hq,hdl,drop32 hq,set32 hq,take32 hq]<;>with_reducible rfl));(·simp only [go_sem]<;>with_reducible rfl))|(apply aL_pK cxG (ux);(iterate 2 (·simp (disch:=first|omega|(simp only [go_sem];omega)) only [go_sem,seval,g1,hpc,hq,hdl,drop32 hq,set32 hq,take32 hq]<;>with_reducible rfl));(·simp only [go_sem]<;>with_reducible rfl);(·simp))|(apply aL_pK cxG (n1);(iterate 2 (·simp (disch:=first|omega|(simp only [go_sem];omega)) only [go_sem,seval,g1,hpc,hq,hdl,drop32 hq,set32 hq,take32 hq]<;>with_reducible rfl));(·simp only [go_sem]<;>with_reducible rfl);(·simp))|(apply aL_pK cxG (hrk);(iterate 2 (·simp (disch:=first|omega|(simp only [go_sem];omega)) only [go_sem,seval,g1,hpc,hq,hdl,drop32 hq,set32 hq,take32 hq]<;>with_reducible rfl));(·simp only [go_sem]<;>with_reducible rfl);(·simp))|fail)
  all_goals try (first|exact True.intro|exact not_false|omega|(simp (disch:=first|omega|(simp only [go_sem];omega)) only [go_sem,seval]<;>omega))
  all_goals clear hc ux n1 hrk hpc
  all_goals try (simp (disch:=first|omega|(simp only [go_sem];omega)) only [go_sem,seval])
  all_goals try simp [Wk,Wks,Wks_app,dgs,wl]
  all_goals try omega
  all_goals try (exact ⟨by omega,by rintro y (⟨a,_,rfl⟩|rfl)<;>simp⟩)
 ·subst hr
  refine pure_fnD cxOk Tryz.func45 (fun _=>false) (fe45.q) (by kernel_rfl) (by dsimp only [Tryz.f45,go_sem,seval,liteO,Option.map,List.map];exact .mk _) ?_
  dsimp only [Tryz.f45,frame0,List.zipIdx,List.map,Nat.reduceAdd]
  try simp only [List.getElem?_toArray,List.getElem?_cons_succ,List.getElem?_cons_zero,Option.bind_some]
  repeat' (first|refine aC_seq ?_|refine aC_reg rfl ?_|refine aC_block ?_|refine aC_ret ?_|refine thenQ_normal ?_|refine blockQ_normal ?_|refine aL_nil ?_|(apply aL_step;(·exact True.intro);(iterate 2 (·simp (disch:=first|omega|(simp only [go_sem];omega)) only [go_sem,seval,g1,hpc,hq,hdl,drop32 hq,set32 hq,take32 hq]<;>with_reducible rfl));(·simp only [go_sem]<;>with_reducible rfl))|(refine aC_condT ?_ ?_;(·simp (disch:=first|omega|(simp only [go_sem];omega)) only [go_sem,seval,g1,hpc,hq,hdl,drop32 hq,set32 hq,take32 hq]))|(refine aC_condF ?_ ?_;(·simp (disch:=first|omega|(simp only [go_sem];omega)) only [go_sem,seval,g1,hpc,hq,hdl,drop32 hq,set32 hq,take32 hq]))|(apply aL_aK ((hc _));(·rfl);(iterate 2 (·simp (disch:=first|omega|(simp only [go_sem];omega)) only [go_sem,seval,g1,hpc,hq,hdl,drop32 hq,set32 hq,take32 hq]<;>with_reducible rfl));(·simp only [go_sem]<;>with_reducible rfl))|(apply aL_pK cxG (ux);(iterate 2 (·simp (disch:=first|omega|(simp only [go_sem];omega)) only [go_sem,seval,g1,hpc,hq,hdl,drop32 hq,set32 hq,take32 hq]<;>with_reducible rfl));(·simp only [go_sem]<;>with_reducible rfl);(·simp))|(apply aL_pK cxG (hrk);(iterate 2 (·simp (disch:=first|omega|(simp only [go_sem];omega)) only [go_sem,seval,g1,hpc,hq,hdl,drop32 hq,set32 hq,take32 hq]<;>with_reducible rfl));(·simp only [go_sem]<;>with_reducible rfl);(·simp))|fail)
  all_goals try (first|exact True.intro|exact not_false|omega|(simp (disch:=first|omega|(simp only [go_sem];omega)) only [go_sem,seval]<;>omega))
  all_goals clear hc ux n1 hrk hpc
  all_goals try (simp (disch:=first|omega|(simp only [go_sem];omega)) only [go_sem,seval])
  all_goals try simp [Wk,Wks,Wks_app,dgs,wl]
  all_goals try omega
  all_goals try (exact ⟨by omega,by rintro y (⟨a,_,rfl⟩|rfl)<;>simp⟩)
 ·subst hr
  refine pure_fnD cxOk Tryz.func45 (fun _=>false) (fe45.q) (by kernel_rfl) (by dsimp only [Tryz.f45,go_sem,seval,liteO,Option.map,List.map];exact .mk _) ?_
  dsimp only [Tryz.f45,frame0,List.zipIdx,List.map,Nat.reduceAdd]
  try simp only [List.getElem?_toArray,List.getElem?_cons_succ,List.getElem?_cons_zero,Option.bind_some]
  repeat' (first|refine aC_seq ?_|refine aC_reg rfl ?_|refine aC_block ?_|refine aC_ret ?_|refine thenQ_normal ?_|refine blockQ_normal ?_|refine aL_nil ?_|(apply aL_step;(·exact True.intro);(iterate 2 (·simp (disch:=first|omega|(simp only [go_sem];omega)) only [go_sem,seval,g1,hpc,hq,hdl,drop32 hq,set32 hq,take32 hq]<;>with_reducible rfl));(·simp only [go_sem]<;>with_reducible rfl))|(refine aC_condT ?_ ?_;(·simp (disch:=first|omega|(simp only [go_sem];omega)) only [go_sem,seval,g1,hpc,hq,hdl,drop32 hq,set32 hq,take32 hq]))|(refine aC_condF ?_ ?_;(·simp (disch:=first|omega|(simp only [go_sem];omega)) only [go_sem,seval,g1,hpc,hq,hdl,drop32 hq,set32 hq,take32 hq]))|(apply aL_aK ((hc _));(·rfl);(iterate 2 (·simp (disch:=first|omega|(simp only [go_sem];omega)) only [go_sem,seval,g1,hpc,hq,hdl,drop32 hq,set32 hq,take32 hq]<;>with_reducible rfl));(·simp only [go_sem]<;>with_reducible rfl))|(apply aL_pK cxG (ux);(iterate 2 (·simp (disch:=first|omega|(simp only [go_sem];omega)) only [go_sem,seval,g1,hpc,hq,hdl,drop32 hq,set32 hq,take32 hq]<;>with_reducible rfl));(·simp only [go_sem]<;>with_reducible rfl);(·simp))|(apply aL_pK cxG (hrk);(iterate 2 (·simp (disch:=first|omega|(simp only [go_sem];omega)) only [go_sem,seval,g1,hpc,hq,hdl,drop32 hq,set32 hq,take32 hq]<;>with_reducible rfl));(·simp only [go_sem]<;>with_reducible rfl);(·simp))|fail)
  all_goals try (first|exact True.intro|exact not_false|omega|(simp (disch:=first|omega|(simp only [go_sem];omega)) only [go_sem,seval]<;>omega))
  all_goals clear hc ux n1 hrk hpc
  all_goals try (simp (disch:=first|omega|(simp only [go_sem];omega)) only [go_sem,seval])
  all_goals try simp [Wk,Wks,Wks_app,dgs,wl]
  all_goals try omega
  all_goals try (exact ⟨by omega,by rintro y (⟨a,_,rfl⟩|rfl)<;>simp⟩)
 ·by_cases h3:4096≤d.length
  case' pos=>simp [h3] at hr
  case' neg=>simp [h3] at hr
  all_goals subst hr
  all_goals
  refine pure_fnD cxOk Tryz.func45 (fun _=>false) (fe45.q) (by kernel_rfl) (by dsimp only [Tryz.f45,go_sem,seval,liteO,Option.map,List.map];exact .mk _) ?_
  dsimp only [Tryz.f45,frame0,List.zipIdx,List.map,Nat.reduceAdd]
  try simp only [List.getElem?_toArray,List.getElem?_cons_succ,List.getElem?_cons_zero,Option.bind_some]
  repeat' (first|refine aC_seq ?_|refine aC_reg rfl ?_|refine aC_block ?_|refine aC_skip ?_|refine aC_ret ?_|refine thenQ_normal ?_|refine blockQ_normal ?_|refine thenQ_ret ?_|refine blockQ_ret ?_|refine aL_nil ?_|(apply aL_step;(·exact True.intro);(iterate 2 (·simp (disch:=first|omega|(simp only [go_sem];omega)) only [go_sem,seval,g1,hpc,hq,hdl,drop32 hq,set32 hq,take32 hq]<;>with_reducible rfl));(·simp only [go_sem]<;>with_reducible rfl))|(refine aC_condT ?_ ?_;(·simp (disch:=first|omega|(simp only [go_sem];omega)) only [go_sem,seval,g1,hpc,hq,hdl,drop32 hq,set32 hq,take32 hq]))|(refine aC_condF ?_ ?_;(·simp (disch:=first|omega|(simp only [go_sem];omega)) only [go_sem,seval,g1,hpc,hq,hdl,drop32 hq,set32 hq,take32 hq]))|(refine aC_condP (by simp (disch:=first|omega|(simp only [go_sem];omega)) only [go_sem,seval,g1,hpc,hq,hdl,drop32 hq,set32 hq,take32 hq]<;>with_reducible rfl) ?_ ?_<;>(intro h;first|(exfalso;omega)|skip))|(apply aL_aK ((hc _));(·rfl);(iterate 2 (·simp (disch:=first|omega|(simp only [go_sem];omega)) only [go_sem,seval,g1,hpc,hq,hdl,drop32 hq,set32 hq,take32 hq]<;>with_reducible rfl));(·simp only [go_sem]<;>with_reducible rfl))|(apply aL_pK cxG (ux);(iterate 2 (·simp (disch:=first|omega|(simp only [go_sem];omega)) only [go_sem,seval,g1,hpc,hq,hdl,drop32 hq,set32 hq,take32 hq]<;>with_reducible rfl));(·simp only [go_sem]<;>with_reducible rfl);(·simp))|(apply aL_pK cxG (hrk);(iterate 2 (·simp (disch:=first|omega|(simp only [go_sem];omega)) only [go_sem,seval,g1,hpc,hq,hdl,drop32 hq,set32 hq,take32 hq]<;>with_reducible rfl));(·simp only [go_sem]<;>with_reducible rfl);(·simp))|fail)
  all_goals try (first|exact True.intro|exact not_false|omega|(simp (disch:=first|omega|(simp only [go_sem];omega)) only [go_sem,seval]<;>omega))
  all_goals clear hc ux n1 hrk hpc
  all_goals try (simp (disch:=first|omega|(simp only [go_sem];omega)) only [go_sem,seval])
  all_goals try simp [Wk,Wks,Wks_app,dgs,wl]
  all_goals try omega
  all_goals try (exact ⟨by omega,by rintro y (⟨a,_,rfl⟩|rfl)<;>simp⟩)
 ·by_cases h3:4096≤e.length
  case' pos=>simp [h3] at hr
  case' neg=>simp [h3] at hr
  all_goals subst hr
  all_goals
  refine pure_fnD cxOk Tryz.func45 (fun _=>false) (fe45.q) (by kernel_rfl) (by dsimp only [Tryz.f45,go_sem,seval,liteO,Option.map,List.map];exact .mk _) ?_
  dsimp only [Tryz.f45,frame0,List.zipIdx,List.map,Nat.reduceAdd]
  try simp only [List.getElem?_toArray,List.getElem?_cons_succ,List.getElem?_cons_zero,Option.bind_some]
  repeat' (first|refine aC_seq ?_|refine aC_reg rfl ?_|refine aC_block ?_|refine aC_skip ?_|refine aC_ret ?_|refine thenQ_normal ?_|refine thenQ_ret ?_|refine blockQ_ret ?_|refine aL_nil ?_|(apply aL_step;(·exact True.intro);(iterate 2 (·simp (disch:=first|omega|(simp only [go_sem];omega)) only [go_sem,seval,g1,hpc,hq,hdl,drop32 hq,set32 hq,take32 hq]<;>with_reducible rfl));(·simp only [go_sem]<;>with_reducible rfl))|(refine aC_condT ?_ ?_;(·simp (disch:=first|omega|(simp only [go_sem];omega)) only [go_sem,seval,g1,hpc,hq,hdl,drop32 hq,set32 hq,take32 hq]))|(refine aC_condF ?_ ?_;(·simp (disch:=first|omega|(simp only [go_sem];omega)) only [go_sem,seval,g1,hpc,hq,hdl,drop32 hq,set32 hq,take32 hq]))|(refine aC_condP (by simp (disch:=first|omega|(simp only [go_sem];omega)) only [go_sem,seval,g1,hpc,hq,hdl,drop32 hq,set32 hq,take32 hq]<;>with_reducible rfl) ?_ ?_<;>(intro h;first|(exfalso;omega)|skip))|(apply aL_aK ((hc _));(·rfl);(iterate 2 (·simp (disch:=first|omega|(simp only [go_sem];omega)) only [go_sem,seval,g1,hpc,hq,hdl,drop32 hq,set32 hq,take32 hq]<;>with_reducible rfl));(·simp only [go_sem]<;>with_reducible rfl))|(apply aL_pK cxG (ux);(iterate 2 (·simp (disch:=first|omega|(simp only [go_sem];omega)) only [go_sem,seval,g1,hpc,hq,hdl,drop32 hq,set32 hq,take32 hq]<;>with_reducible rfl));(·simp only [go_sem]<;>with_reducible rfl);(·simp))|(apply aL_pK cxG (hrk);(iterate 2 (·simp (disch:=first|omega|(simp only [go_sem];omega)) only [go_sem,seval,g1,hpc,hq,hdl,drop32 hq,set32 hq,take32 hq]<;>with_reducible rfl));(·simp only [go_sem]<;>with_reducible rfl);(·simp))|fail)
  all_goals try refine aC_regB (U:=[(some 73,some 77)]) rfl [(some 73,0)] ?_
  all_goals
  repeat' (first|refine aLB_nil ?_|(apply aLB_step;(·exact True.intro);(·exact (by intro h;cases h));(·rfl);(·simp (disch:=first|omega|(simp only [go_sem];omega)) only [go_sem,seval,g1,hpc,hq,hdl,drop32 hq,set32 hq,take32 hq]);(·simp (disch:=first|omega|(simp only [go_sem];omega)) only [go_sem,seval,g1,hpc,hq,hdl,drop32 hq,set32 hq,take32 hq]<;>with_reducible rfl);(·simp only [go_sem]<;>with_reducible rfl);(·(intro b hb;first|(cases hb;done)|(simp (disch:=first|omega|(simp only [go_sem];omega)) only [loadBox,go_sem,seval] at hb;(try injection hb with hb);subst hb;simp))))|(apply aLB_write;(·exact True.intro);(·rfl);(·rfl);(·simp (disch:=first|omega|(simp only [go_sem];omega)) only [go_sem,seval,g1,hpc,hq,hdl,drop32 hq,set32 hq,take32 hq]);(·simp (disch:=first|omega|(simp only [go_sem];omega)) only [go_sem,seval,g1,hpc,hq,hdl,drop32 hq,set32 hq,take32 hq]<;>with_reducible rfl);(·simp only [go_sem]<;>with_reducible rfl);(·simp))|(apply aLB_pure cxG (n1);(case hg=>(simp (disch:=first|omega|(simp only [go_sem];omega)) only [go_sem,seval,g1,hpc,hq,hdl,drop32 hq,set32 hq,take32 hq]));(case hx=>(simp (disch:=first|omega|(simp only [go_sem];omega)) only [go_sem,seval,g1,hpc,hq,hdl,drop32 hq,set32 hq,take32 hq]<;>with_reducible rfl));(case ha=>(simp (disch:=first|omega|(simp only [go_sem];omega)) only [go_sem,seval,g1,hpc,hq,hdl,drop32 hq,set32 hq,take32 hq]<;>with_reducible rfl));(case he=>(simp only [go_sem]<;>with_reducible rfl));(case hcl=>(simp));(case hf=>(simp only [go_sem]<;>with_reducible rfl)))|fail)
  all_goals
  repeat' (first|refine aC_seq ?_|refine aC_reg rfl ?_|refine aC_ret ?_|refine thenQ_normal ?_|refine blockQ_normal ?_|refine aL_nil ?_|(apply aL_step;(·exact True.intro);(iterate 2 (·simp (disch:=first|omega|(simp only [go_sem];omega)) only [go_sem,seval,g1,hpc,hq,hdl,drop32 hq,set32 hq,take32 hq]<;>with_reducible rfl));(·simp only [go_sem]<;>with_reducible rfl))|fail)
  all_goals try (first|exact True.intro|exact not_false|omega|(simp (disch:=first|omega|(simp only [go_sem];omega)) only [go_sem,seval]<;>omega))
  all_goals clear hc ux n1 hrk hpc
  all_goals try (simp (disch:=first|omega|(simp only [go_sem];omega)) only [go_sem,seval])
  all_goals try simp [Wk,Wks,Wks_app,dgs,wl]
  all_goals try omega
  all_goals try (exact ⟨by omega,by rintro y (⟨a,_,rfl⟩|rfl)<;>simp⟩)
 ·subst hr
  refine pure_fnD cxOk Tryz.func45 (fun _=>false) (fe45.q) (by kernel_rfl) (by dsimp only [Tryz.f45,go_sem,seval,liteO,Option.map,List.map];exact .mk _) ?_
  dsimp only [Tryz.f45,frame0,List.zipIdx,List.map,Nat.reduceAdd]
  try simp only [List.getElem?_toArray,List.getElem?_cons_succ,List.getElem?_cons_zero,Option.bind_some]
  repeat' (first|refine aC_seq ?_|refine aC_reg rfl ?_|refine aC_block ?_|refine aC_ret ?_|refine thenQ_normal ?_|refine thenQ_ret ?_|refine blockQ_ret ?_|refine aL_nil ?_|(apply aL_step;(·exact True.intro);(iterate 2 (·simp (disch:=first|omega|(simp only [go_sem];omega)) only [go_sem,seval,g1,hpc,hq,hdl,drop32 hq,set32 hq,take32 hq]<;>with_reducible rfl));(·simp only [go_sem]<;>with_reducible rfl))|(refine aC_condF ?_ ?_;(·simp (disch:=first|omega|(simp only [go_sem];omega)) only [go_sem,seval,g1,hpc,hq,hdl,drop32 hq,set32 hq,take32 hq]))|(apply aL_aK ((hc _));(·rfl);(iterate 2 (·simp (disch:=first|omega|(simp only [go_sem];omega)) only [go_sem,seval,g1,hpc,hq,hdl,drop32 hq,set32 hq,take32 hq]<;>with_reducible rfl));(·simp only [go_sem]<;>with_reducible rfl))|(apply aL_pK cxG (ux);(iterate 2 (·simp (disch:=first|omega|(simp only [go_sem];omega)) only [go_sem,seval,g1,hpc,hq,hdl,drop32 hq,set32 hq,take32 hq]<;>with_reducible rfl));(·simp only [go_sem]<;>with_reducible rfl);(·simp))|(apply aL_pK cxG (hrk);(iterate 2 (·simp (disch:=first|omega|(simp only [go_sem];omega)) only [go_sem,seval,g1,hpc,hq,hdl,drop32 hq,set32 hq,take32 hq]<;>with_reducible rfl));(·simp only [go_sem]<;>with_reducible rfl);(·simp))|fail)
  all_goals try (first|exact True.intro|exact not_false|omega|(simp (disch:=first|omega|(simp only [go_sem];omega)) only [go_sem,seval]<;>omega))
  all_goals clear hc ux n1 hrk hpc
  all_goals try (simp (disch:=first|omega|(simp only [go_sem];omega)) only [go_sem,seval])
  all_goals try simp [Wk,Wks,Wks_app,dgs,wl]
  all_goals try omega
  all_goals try (exact ⟨by omega,by rintro y (⟨a,_,rfl⟩|rfl)<;>simp⟩)
theorem ref_Take (s:List UInt8) (hs:s.length≤100000) (q:Su) (hq:q.m.length=32) (nd ne:Bool) (hnd:nd=true→q.d=[]) (hne:ne=true→q.e=[]) (hld:q.d.length≤100000) (hle:q.e.length≤100000) :
  (∀ y,IsSl s y→(y.app q).d.length≤4096→(y.app q).e.length≤4096→APure cx 45 [.agg (suC q nd ne),.str s] (.tup [.agg (suC (y.app q) (y.app q).d.isEmpty (y.app q).e.isEmpty),.int .i64 0])) ∧
  (∀ y,IsSl s y→q.d.length≤4096→q.e.length≤4096→¬ ((y.app q).d.length≤4096∧(y.app q).e.length≤4096)→APure cx 45 [.agg (suC q nd ne),.str s] (.tup [.agg zeroC,.int .i64 3])):=by
 refine ⟨fun y hy h1 h2=>?_,fun y hy h1 h2 h3=>?_⟩
 ·have hg:=is_g hy
  refine ref_Take_k y.rank s hs q hq nd ne hnd hne hld hle (rankR_is hy) (by have:=y.rank_le;omega) _ ?_
  cases y with
  |gran n=>obtain ⟨_,rfl⟩:=hg;simp [Sl.rank,Sl.app]
  |mode b=>obtain ⟨_,rfl⟩:=hg;simp [Sl.rank,Sl.app]
  |master m=>obtain ⟨_,rfl⟩:=hg;simp [Sl.rank,Sl.app]
  |draw m =>
   obtain ⟨_,rfl⟩:=hg
   simp [Sl.app] at h1
   have:¬ 4096≤q.d.length:=by omega
   simp [Sl.rank,Sl.app,this]
   rw [show (q.d++[dgR (pt s 1)]).isEmpty=false by simp]
  |ent n =>
   obtain ⟨_,rfl⟩:=hg
   simp [Sl.app] at h2
   have:¬ 4096≤q.e.length:=by omega
   simp [Sl.rank,Sl.app,this]
   rw [show (q.e++[nmR (pt s 1)]).isEmpty=false by simp]
 ·refine ref_Take_k y.rank s hs q hq nd ne hnd hne hld hle (rankR_is hy) (by have:=y.rank_le;omega) _ ?_
  cases y with
  |gran n=>exact absurd ⟨h1,h2⟩ h3
  |mode b=>exact absurd ⟨h1,h2⟩ h3
  |master m=>exact absurd ⟨h1,h2⟩ h3
  |draw m =>
   have:4096≤q.d.length:=Decidable.byContradiction fun k=>h3 ⟨by simp [Sl.app];omega,h2⟩
   simp [Sl.rank,this]
  |ent n =>
   have:4096≤q.e.length:=Decidable.byContradiction fun k=>h3 ⟨h1,by simp [Sl.app];omega⟩
   simp [Sl.rank,this]
end
end Go.Am
end
section
namespace Go.Am
open Go Go.Proofs
set_option maxHeartbeats 8000000
set_option maxRecDepth 100000
section
attribute [local irreducible] aC aL thenQ blockQ scopeQ ALoop AWp
def psO (p:Ps):List AVal:=.int .i64 p.s.g :: .bool p.s.i::(bl p.s.m++[.sl 32 p.s.d.isEmpty (dgs p.s.d) .any,.sl 1 p.s.e.isEmpty (wl p.s.e) .any,.sl 11 p.l.isEmpty (sts (stl p.l)) (.own 2)])
def rpS (p:Ps):St:=[zS,.cells (psO p) 48,.grow (sts (stl p.l)).length 11 31]
theorem psO_bel {n:Nat} (hn:3≤n) (p:Ps):belS n (rpS p)=true:=by
 have h2:Nat.blt 2 n=true:=blt_iff.2 (by omega)
 unfold rpS psO
 show (belB n zS&&(belB n _&&(belB n _&&true)))=true
 rw [show belB n zS=true from rfl]
 simp [belB,belF,bel,bels,bels_append',bels_bytes',bels_dgs,bels_wl,bels_sts,belT,h2]
theorem getD_strs (L:List (List UInt8)) (k:Nat) (z:AVal) (h:k<L.length):(L.map AVal.str).getD k z = .str L[k]:=by simp [List.getD,h]
theorem bels_strs (n:Nat) (L:List (List UInt8)):bels n (L.map AVal.str)=true:=bels_iff.2 fun x hx=>by obtain ⟨b,_,rfl⟩:=List.mem_map.1 hx;rfl
theorem ref_Parse (s:List UInt8) (L:List (List UInt8)) (rest:List UInt8) (hs:s.length≤4194304) (hx:∀ x∈L,x.length≤100000) (hL10:∀ x∈L,(10:UInt8) ∉ x) (hr10:(10:UInt8) ∉ rest) (hj:s=jn L rest):APure cx 14 [.str s] (parR L rest):=by
 have hsz:=jn_sizes L rest
 rw [← hj] at hsz
 have hLs:L.length≤4194304:=by have:=hsz.2.2;omega
 have hsp:=ref_Split s L rest hs (by rw [hj];exact jn_parts L rest hL10 hr10)
 have hlm:(L.map AVal.str).length=L.length:=by simp
 clear hsz hj hL10 hr10
 refine pure_fnD cxOk Tryz.func14 (fun _=>false) (fe14.q) (by kernel_rfl) (by dsimp only [Tryz.f14,go_sem,seval,liteO,Option.map,List.map];exact .mk _) ?_
 dsimp only [Tryz.f14,frame0,List.zipIdx,List.map,Nat.reduceAdd]
 try simp only [List.getElem?_toArray,List.getElem?_cons_succ,List.getElem?_cons_zero,Option.bind_some]
 repeat' (first|refine aC_seq ?_|refine aC_reg rfl ?_|refine aC_block ?_|refine aC_skip ?_|refine aC_loop ?_|refine thenQ_normal ?_|refine aL_nil ?_|(apply aL_step;(·exact True.intro);(iterate 2 (·simp (disch:=first|omega|(simp only [go_sem];omega)) only [go_sem,seval]<;>with_reducible rfl));(·simp only [go_sem]<;>with_reducible rfl))|(refine aC_condP (by simp (disch:=first|omega|(simp only [go_sem];omega)) only [go_sem,seval]<;>with_reducible rfl) ?_ ?_<;>(intro h;first|(exfalso;omega)|skip))|(apply aL_pK cxG (hsp);(iterate 2 (·simp (disch:=first|omega|(simp only [go_sem];omega)) only [go_sem,seval]<;>with_reducible rfl));(·simp only [go_sem]<;>with_reducible rfl);(·simp))|fail)
 all_goals try (first|exact True.intro|exact not_false|omega|(simp (disch:=first|omega|(simp only [go_sem];omega)) only [go_sem,seval]<;>omega))
 ·refine loop_ruleD (cxOk.wp _ _) (cxG.wp _ _) (σ:=Nat) (fun k=>[(9,.int .i64 (k:Nat)),(8,.int .i64 ((preD L k).rank:Nat)),(7,.ptr 1 0),(6,.str rest),(5,.sl 1 L.isEmpty (L.map .str) .any),(2,.ptr 0 0)])
   (fun k=>rpS (preD L k)) (fun k=>L.length-k) (fun k=>k≤L.length∧preP L k=some (preD L k))
   3 0 ((GStep.wkB 1 (.int .i64 0 :: .bool false::(bl [0,0,0,0,0,0,0,0,0,0,0,0,0,0,0,0,0,0,0,0,0,0,0,0,0,0,0,0,0,0,0,0]++[.sl 32 true [] .any,.sl 1 true [] .any,.sl 1 true [] .any])) rfl (by simp [Wks,Wk,Wks_app])).trans (GStep.ownG 1 36 11 31 rfl rfl)) ⟨⟨Nat.zero_le _,rfl⟩,Sub.of_all (by simp [Fr.get,preD,preP,p0]),by rfl⟩ (by simp)
   (fun k _=>⟨psO_bel (by decide) _,by simp [belF,bel,bels_strs,belT,Nat.blt]⟩) ?_
  clear hsp
  rintro k ⟨hk,hJ⟩
  obtain ⟨hp,hpl⟩:=preP_ok hJ
  have hm:=hp.su.m32
  have hr5:=hp.r5
  have hmx:maxI 3 (((preD L k).rank:Nat):Int)=((max 3 (preD L k).rank:Nat):Int):=by unfold maxI;split<;>omega
  by_cases hlt:k<L.length
  ·have hg:=getD_strs L k .any hlt
   have hxk:=hx _ (List.getElem_mem hlt)
   have hrk:=ref_Rank L[k] hxk
   have hsu:=preP_succ hJ hlt
   rcases slOf_cases L[k] with ⟨y,hy,e⟩|⟨hno,e⟩
   ·rw [rankR_is hy] at hrk
    have hy4:=y.rank_le
    have htk:=ref_Take L[k] hxk (preD L k).s hm (preD L k).s.d.isEmpty (preD L k).s.e.isEmpty (fun h=>List.isEmpty_iff.1 h) (fun h=>List.isEmpty_iff.1 h) (by have:=hp.d4;omega) (by have:=hp.e4;omega)
    by_cases hbad:Bad k (preD L k).rank y.rank
    ·have hpr:=parR_bad (rest:=rest) hlt hJ (by unfold stepP;rw [e];simp only [stepW,if_pos hbad])
     rw [hpr]
     clear hpr hx htk hsu hJ hp
     unfold Bad at hbad
     generalize y.rank=yr at *
     generalize L[k]=x at *
     generalize preD L k=p at *
     obtain ⟨⟨g,i,m,d,ee⟩,l,rk⟩:=p
     unfold rpS psO zS
     simp only at *
     repeat' (first|refine aC_seq ?_|refine aC_reg rfl ?_|refine aC_block ?_|refine aC_skip ?_|refine aC_ret ?_|refine thenQ_normal ?_|refine thenQ_ret ?_|refine blockQ_ret ?_|refine aL_nil ?_|(apply aL_step;(·exact True.intro);(iterate 2 (·simp (disch:=first|omega|(simp only [go_sem];omega)) only [go_sem,seval,hg,hlm,hmx]<;>with_reducible rfl));(·simp only [go_sem]<;>with_reducible rfl))|(refine aL_skip ?_ (by simp only [go_sem]<;>with_reducible rfl) ?_;(·simp (disch:=first|omega|(simp only [go_sem];omega)) only [go_sem,seval,hg,hlm,hmx]))|(apply aL_guardN;(·simp (disch:=first|omega|(simp only [go_sem];omega)) only [go_sem,seval,hg,hlm,hmx]<;>with_reducible rfl);all_goals (intro h;first|(exfalso;omega)|(simp only [h,decide_true,decide_false,not_true,not_false_iff])))|(apply aL_guardP;(·simp (disch:=first|omega|(simp only [go_sem];omega)) only [go_sem,seval,hg,hlm,hmx]<;>with_reducible rfl);all_goals (intro h;first|(exfalso;omega)|(simp only [h,decide_true,decide_false,not_true,not_false_iff])))|(refine aC_condT ?_ ?_;(·simp (disch:=first|omega|(simp only [go_sem];omega)) only [go_sem,seval,hg,hlm,hmx]))|(refine aC_condP (by simp (disch:=first|omega|(simp only [go_sem];omega)) only [go_sem,seval,hg,hlm,hmx]<;>with_reducible rfl) ?_ ?_<;>(intro h;first|(exfalso;omega)|skip))|(apply aL_pK cxG (hrk);(iterate 2 (·simp (disch:=first|omega|(simp only [go_sem];omega)) only [go_sem,seval,hg,hlm,hmx]<;>with_reducible rfl));(·simp only [go_sem]<;>with_reducible rfl);(·simp))|fail)
     all_goals try (first|exact True.intro|exact not_false|omega|(simp (disch:=first|omega|(simp only [go_sem];omega)) only [go_sem,seval]<;>omega))
     all_goals try (intro _ _ h;exact h.elim)
     all_goals clear hrk
     all_goals rw [zRes]
     all_goals try (simp (disch:=first|omega|(simp only [go_sem];omega)) only [go_sem,seval])
     all_goals try simp [Wk,Wks,Wks_app]
     all_goals try omega
    ·by_cases hle:(y.app (preD L k).s).d.length≤4096∧(y.app (preD L k).s).e.length≤4096
     ·have htk:=htk.1 y hy hle.1 hle.2
      have hm':=(app_ok hy.1 hp.su).m32
      have hst:stepP k (preD L k) L[k]=some ⟨y.app (preD L k).s,(preD L k).l,y.rank⟩:=by
       unfold stepP;rw [e];simp only [stepW,if_neg hbad];rw [if_pos hle]
      rw [hst] at hsu
      have hpe:=preD_eq hsu
      have hbel:=psO_bel (Nat.le_refl 3) (preD L (k+1))
      clear hst hx hp hJ
      rw [← hpe] at hsu
      generalize hP:preD L (k+1)=P' at *
      subst hpe
      unfold Bad at hbad
      generalize hy':y.app (preD L k).s=s' at *
      generalize hyr:y.rank=yr at *
      generalize L[k]=x at *
      generalize hPk:preD L k=p at *
      obtain ⟨⟨g,i,m,d,ee⟩,l,rk⟩:=p
      obtain ⟨g',i',m',d',ee'⟩:=s'
      unfold rpS psO zS
      unfold suC at htk
      simp only at *
      repeat' (first|refine aC_seq ?_|refine aC_reg rfl ?_|refine aC_block ?_|refine aC_skip ?_|refine thenQ_normal ?_|refine aL_nil ?_|(apply aL_step;(·exact True.intro);(iterate 2 (·simp (disch:=first|omega|(simp only [go_sem];omega)) only [go_sem,seval,hg,hlm,hmx]<;>with_reducible rfl));(·simp only [go_sem]<;>with_reducible rfl))|(refine aL_skip ?_ (by simp only [go_sem]<;>with_reducible rfl) ?_;(·simp (disch:=first|omega|(simp only [go_sem];omega)) only [go_sem,seval,hg,hlm,hmx]))|(apply aL_guardN;(·simp (disch:=first|omega|(simp only [go_sem];omega)) only [go_sem,seval,hg,hlm,hmx]<;>with_reducible rfl);all_goals (intro h;first|(exfalso;omega)|(simp only [h,decide_true,decide_false,not_true,not_false_iff])))|(apply aL_guardP;(·simp (disch:=first|omega|(simp only [go_sem];omega)) only [go_sem,seval,hg,hlm,hmx]<;>with_reducible rfl);all_goals (intro h;first|(exfalso;omega)|(simp only [h,decide_true,decide_false,not_true,not_false_iff])))|(refine aC_condF ?_ ?_;(·simp (disch:=first|omega|(simp only [go_sem];omega)) only [go_sem,seval,hg,hlm,hmx]))|(refine aC_condP (by simp (disch:=first|omega|(simp only [go_sem];omega)) only [go_sem,seval,hg,hlm,hmx]<;>with_reducible rfl) ?_ ?_<;>(intro h;first|(exfalso;omega)|skip))|(apply aL_pK cxG (hrk);(iterate 2 (·simp (disch:=first|omega|(simp only [go_sem];omega)) only [go_sem,seval,hg,hlm,hmx]<;>with_reducible rfl));(·simp only [go_sem]<;>with_reducible rfl);(·simp))|fail)
      all_goals try (first|exact True.intro|exact not_false|omega|(simp (disch:=first|omega|(simp only [go_sem];omega)) only [go_sem,seval]<;>omega))
      all_goals
      refine aC_regH (U:=[(some 76,some 11),(some 80,some 11)]) rfl [(some 76,1)] [(3,.cells (.int .i64 0 :: .bool false::(bl (List.replicate 32 0)++[.sl 1 true [] .any,.sl 1 true [] .any])) 45)] 1 ?_
      all_goals
      repeat' (first|refine aLH_nil ?_|(apply aLH_step;(·exact True.intro);(·rfl);(·rfl);(·simp (disch:=first|omega|(simp only [go_sem];omega)) only [go_sem,seval,hg,hlm,hm',hm,drop32 hm,set32 hm,get32 hm,take32 hm,drop32 hm',set32 hm',take32 hm']);(·simp (disch:=first|omega|(simp only [go_sem];omega)) only [go_sem,seval,hg,hlm,hm',hm,drop32 hm,set32 hm,get32 hm,take32 hm,drop32 hm',set32 hm',take32 hm']<;>with_reducible rfl);(·simp only [go_sem]<;>with_reducible rfl);(·(intro b hb;first|(cases hb;done)|(simp (disch:=first|omega|(simp only [go_sem];omega)) only [loadBox,go_sem,seval] at hb;(try injection hb with hb);subst hb;simp))))|(apply aLH_write;(·exact True.intro);(·rfl);(·rfl);(·rfl);(·simp (disch:=first|omega|(simp only [go_sem];omega)) only [go_sem,seval,hg,hlm,hm',hm,drop32 hm,set32 hm,get32 hm,take32 hm,drop32 hm',set32 hm',take32 hm']);(·simp (disch:=first|omega|(simp only [go_sem];omega)) only [go_sem,seval,hg,hlm,hm',hm,drop32 hm,set32 hm,get32 hm,take32 hm,drop32 hm',set32 hm',take32 hm']<;>with_reducible rfl);(·simp only [go_sem]<;>with_reducible rfl);(·simp);(·simp);(·simp))|(apply aLH_alloc 3;(case hg=>(simp (disch:=first|omega|(simp only [go_sem];omega)) only [go_sem,seval,hg,hlm,hm',hm,drop32 hm,set32 hm,get32 hm,take32 hm,drop32 hm',set32 hm',take32 hm']));(case hi=>(simp (disch:=first|omega|(simp only [go_sem];omega)) only [go_sem,seval,hg,hlm,hm',hm,drop32 hm,set32 hm,get32 hm,take32 hm,drop32 hm',set32 hm',take32 hm']<;>with_reducible rfl));(case hs=>(simp (disch:=first|omega|(simp only [go_sem];omega)) only [go_sem,seval,hg,hlm,hm',hm,drop32 hm,set32 hm,get32 hm,take32 hm,drop32 hm',set32 hm',take32 hm']<;>with_reducible rfl));(case hS=>(simp (disch:=first|omega|(simp only [go_sem];omega)) only [go_sem,seval,hg,hlm,hm',hm,drop32 hm,set32 hm,get32 hm,take32 hm,drop32 hm',set32 hm',take32 hm']<;>with_reducible rfl));(case hf=>(simp only [go_sem]<;>with_reducible rfl));(case hH=>(simp));(case hk=>(simp)))|(apply aLH_pure cxG (htk);(case hg=>(simp (disch:=first|omega|(simp only [go_sem];omega)) only [go_sem,seval,hg,hlm,hm',hm,drop32 hm,set32 hm,get32 hm,take32 hm,drop32 hm',set32 hm',take32 hm']));(case hx=>(simp (disch:=first|omega|(simp only [go_sem];omega)) only [go_sem,seval,hg,hlm,hm',hm,drop32 hm,set32 hm,get32 hm,take32 hm,drop32 hm',set32 hm',take32 hm']<;>with_reducible rfl));(case ha=>(simp (disch:=first|omega|(simp only [go_sem];omega)) only [go_sem,seval,hg,hlm,hm',hm,drop32 hm,set32 hm,get32 hm,take32 hm,drop32 hm',set32 hm',take32 hm']<;>with_reducible rfl));(case he=>(simp only [go_sem]<;>with_reducible rfl));(case hcl=>(simp));(case hf=>(simp only [go_sem]<;>with_reducible rfl)))|fail)
      all_goals
      repeat' (first|refine aC_seq ?_|refine aC_reg rfl ?_|refine aC_skip ?_|refine aC_exit ?_|refine thenQ_normal ?_|refine thenQ_exit ?_|refine blockQ_hit ?_|refine aL_nil ?_|(apply aL_step;(·exact True.intro);(iterate 2 (·simp (disch:=first|omega|(simp only [go_sem];omega)) only [go_sem,seval,hg,hlm,hm',put32 hm hm',hm,drop32 hm,set32 hm,get32 hm,take32 hm,drop32 hm',set32 hm',take32 hm',putCells_cons0]<;>with_reducible rfl));(·simp only [go_sem]<;>with_reducible rfl))|(refine aC_condF ?_ ?_;(·simp (disch:=first|omega|(simp only [go_sem];omega)) only [go_sem,seval,hg,hlm,hm',put32 hm hm',hm,drop32 hm,set32 hm,get32 hm,take32 hm,drop32 hm',set32 hm',take32 hm',putCells_cons0]))|fail)
      all_goals try (first|exact True.intro|exact not_false|omega|(simp (disch:=first|omega|(simp only [go_sem];omega)) only [go_sem,seval]<;>omega))
      all_goals
      refine ⟨k+1,⟨by omega,by rw [hP];exact hsu⟩,?_,?_,by omega⟩
      ·rw [hP]
       exact Sub.of_all (by simp [Fr.get])
      ·rw [hP]
       first|rfl|(simp;done)|(simp;rw [length_sts])
     ·have htk:=htk.2 y hy hp.d4 hp.e4 hle
      have hpr:=parR_bad (rest:=rest) hlt hJ (by unfold stepP;rw [e];simp only [stepW,if_neg hbad];rw [if_neg hle])
      rw [hpr]
      clear hpr hx hsu hJ hp hle
      unfold Bad at hbad
      generalize y.rank=yr at *
      generalize L[k]=x at *
      generalize preD L k=p at *
      obtain ⟨⟨g,i,m,d,ee⟩,l,rk⟩:=p
      unfold rpS psO zS
      unfold suC zeroC at htk
      simp only at *
      repeat' (first|refine aC_seq ?_|refine aC_reg rfl ?_|refine aC_block ?_|refine aC_skip ?_|refine thenQ_normal ?_|refine aL_nil ?_|(apply aL_step;(·exact True.intro);(iterate 2 (·simp (disch:=first|omega|(simp only [go_sem];omega)) only [go_sem,seval,hg,hlm,hmx]<;>with_reducible rfl));(·simp only [go_sem]<;>with_reducible rfl))|(refine aL_skip ?_ (by simp only [go_sem]<;>with_reducible rfl) ?_;(·simp (disch:=first|omega|(simp only [go_sem];omega)) only [go_sem,seval,hg,hlm,hmx]))|(apply aL_guardN;(·simp (disch:=first|omega|(simp only [go_sem];omega)) only [go_sem,seval,hg,hlm,hmx]<;>with_reducible rfl);all_goals (intro h;first|(exfalso;omega)|(simp only [h,decide_true,decide_false,not_true,not_false_iff])))|(apply aL_guardP;(·simp (disch:=first|omega|(simp only [go_sem];omega)) only [go_sem,seval,hg,hlm,hmx]<;>with_reducible rfl);all_goals (intro h;first|(exfalso;omega)|(simp only [h,decide_true,decide_false,not_true,not_false_iff])))|(refine aC_condF ?_ ?_;(·simp (disch:=first|omega|(simp only [go_sem];omega)) only [go_sem,seval,hg,hlm,hmx]))|(refine aC_condP (by simp (disch:=first|omega|(simp only [go_sem];omega)) only [go_sem,seval,hg,hlm,hmx]<;>with_reducible rfl) ?_ ?_<;>(intro h;first|(exfalso;omega)|skip))|(apply aL_pK cxG (hrk);(iterate 2 (·simp (disch:=first|omega|(simp only [go_sem];omega)) only [go_sem,seval,hg,hlm,hmx]<;>with_reducible rfl));(·simp only [go_sem]<;>with_reducible rfl);(·simp))|fail)
      all_goals try (first|exact True.intro|exact not_false|omega|(simp (disch:=first|omega|(simp only [go_sem];omega)) only [go_sem,seval]<;>omega))
      all_goals
      refine aC_regH (U:=[(some 76,some 11),(some 80,some 11)]) rfl [(some 76,1)] [(3,.cells (.int .i64 0 :: .bool false::(bl (List.replicate 32 0)++[.sl 1 true [] .any,.sl 1 true [] .any])) 45)] 1 ?_
      all_goals
      repeat' (first|refine aLH_nil ?_|(apply aLH_step;(·exact True.intro);(·rfl);(·rfl);(·simp (disch:=first|omega|(simp only [go_sem];omega)) only [go_sem,seval,hg,hlm,hm,drop32 hm,set32 hm,get32 hm,take32 hm]);(·simp (disch:=first|omega|(simp only [go_sem];omega)) only [go_sem,seval,hg,hlm,hm,drop32 hm,set32 hm,get32 hm,take32 hm]<;>with_reducible rfl);(·simp only [go_sem]<;>with_reducible rfl);(·(intro b hb;first|(cases hb;done)|(simp (disch:=first|omega|(simp only [go_sem];omega)) only [loadBox,go_sem,seval] at hb;(try injection hb with hb);subst hb;simp))))|(apply aLH_write;(·exact True.intro);(·rfl);(·rfl);(·rfl);(·simp (disch:=first|omega|(simp only [go_sem];omega)) only [go_sem,seval,hg,hlm,hm,drop32 hm,set32 hm,get32 hm,take32 hm]);(·simp (disch:=first|omega|(simp only [go_sem];omega)) only [go_sem,seval,hg,hlm,hm,drop32 hm,set32 hm,get32 hm,take32 hm]<;>with_reducible rfl);(·simp only [go_sem]<;>with_reducible rfl);(·simp);(·simp);(·simp))|(apply aLH_alloc 3;(case hg=>(simp (disch:=first|omega|(simp only [go_sem];omega)) only [go_sem,seval,hg,hlm,hm,drop32 hm,set32 hm,get32 hm,take32 hm]));(case hi=>(simp (disch:=first|omega|(simp only [go_sem];omega)) only [go_sem,seval,hg,hlm,hm,drop32 hm,set32 hm,get32 hm,take32 hm]<;>with_reducible rfl));(case hs=>(simp (disch:=first|omega|(simp only [go_sem];omega)) only [go_sem,seval,hg,hlm,hm,drop32 hm,set32 hm,get32 hm,take32 hm]<;>with_reducible rfl));(case hS=>(simp (disch:=first|omega|(simp only [go_sem];omega)) only [go_sem,seval,hg,hlm,hm,drop32 hm,set32 hm,get32 hm,take32 hm]<;>with_reducible rfl));(case hf=>(simp only [go_sem]<;>with_reducible rfl));(case hH=>(simp));(case hk=>(simp)))|(apply aLH_pure cxG (htk);(case hg=>(simp (disch:=first|omega|(simp only [go_sem];omega)) only [go_sem,seval,hg,hlm,hm,drop32 hm,set32 hm,get32 hm,take32 hm]));(case hx=>(simp (disch:=first|omega|(simp only [go_sem];omega)) only [go_sem,seval,hg,hlm,hm,drop32 hm,set32 hm,get32 hm,take32 hm]<;>with_reducible rfl));(case ha=>(simp (disch:=first|omega|(simp only [go_sem];omega)) only [go_sem,seval,hg,hlm,hm,drop32 hm,set32 hm,get32 hm,take32 hm]<;>with_reducible rfl));(case he=>(simp only [go_sem]<;>with_reducible rfl));(case hcl=>(simp));(case hf=>(simp only [go_sem]<;>with_reducible rfl)))|fail)
      all_goals
      repeat' (first|refine aC_seq ?_|refine aC_reg rfl ?_|refine aC_ret ?_|refine thenQ_normal ?_|refine thenQ_ret ?_|refine blockQ_ret ?_|refine aL_nil ?_|(apply aL_step;(·exact True.intro);(iterate 2 (·simp (disch:=first|omega|(simp only [go_sem];omega)) only [go_sem,seval,decide_true,decide_false,not_false_eq_true,hg,hlm,hm,drop32 hm,set32 hm,get32 hm,take32 hm,putCells_cons0]<;>with_reducible rfl));(·simp only [go_sem]<;>with_reducible rfl))|(refine aC_condT ?_ ?_;(·simp (disch:=first|omega|(simp only [go_sem];omega)) only [go_sem,seval,decide_true,decide_false,not_false_eq_true,hg,hlm,hm,drop32 hm,set32 hm,get32 hm,take32 hm,putCells_cons0]))|fail)
      all_goals try (first|exact True.intro|exact not_false|omega|(simp (disch:=first|omega|(simp only [go_sem];omega)) only [go_sem,seval]<;>omega))
      all_goals try (intro _ _ h;exact h.elim)
      all_goals clear hrk htk
      all_goals rw [zRes]
      all_goals try (simp (disch:=first|omega|(simp only [go_sem];omega)) only [go_sem,seval])
      all_goals try simp [Wk,Wks,Wks_app]
      all_goals try omega
   ·rw [rankR_no hno] at hrk
    by_cases h3:k<3
    ·have hpr:=parR_bad (rest:=rest) hlt hJ (by unfold stepP;rw [e];simp only [stepW,if_pos h3])
     rw [hpr]
     clear hpr hx hsu hJ hp
     generalize L[k]=x at *
     generalize preD L k=p at *
     obtain ⟨⟨g,i,m,d,ee⟩,l,rk⟩:=p
     unfold rpS psO zS
     simp only at *
     repeat' (first|refine aC_seq ?_|refine aC_reg rfl ?_|refine aC_block ?_|refine aC_skip ?_|refine aC_ret ?_|refine thenQ_normal ?_|refine thenQ_ret ?_|refine blockQ_ret ?_|refine aL_nil ?_|(apply aL_step;(·exact True.intro);(iterate 2 (·simp (disch:=first|omega|(simp only [go_sem];omega)) only [go_sem,seval,hg,hlm,hmx]<;>with_reducible rfl));(·simp only [go_sem]<;>with_reducible rfl))|(refine aL_skip ?_ (by simp only [go_sem]<;>with_reducible rfl) ?_;(·simp (disch:=first|omega|(simp only [go_sem];omega)) only [go_sem,seval,hg,hlm,hmx]))|(apply aL_guardN;(·simp (disch:=first|omega|(simp only [go_sem];omega)) only [go_sem,seval,hg,hlm,hmx]<;>with_reducible rfl);all_goals (intro h;first|(exfalso;omega)|(simp only [h,decide_true,decide_false,not_true,not_false_iff])))|(refine aC_condT ?_ ?_;(·simp (disch:=first|omega|(simp only [go_sem];omega)) only [go_sem,seval,hg,hlm,hmx]))|(refine aC_condP (by simp (disch:=first|omega|(simp only [go_sem];omega)) only [go_sem,seval,hg,hlm,hmx]<;>with_reducible rfl) ?_ ?_<;>(intro h;first|(exfalso;omega)|skip))|(apply aL_pK cxG (hrk);(iterate 2 (·simp (disch:=first|omega|(simp only [go_sem];omega)) only [go_sem,seval,hg,hlm,hmx]<;>with_reducible rfl));(·simp only [go_sem]<;>with_reducible rfl);(·simp))|fail)
     all_goals try (first|exact True.intro|exact not_false|omega|(simp (disch:=first|omega|(simp only [go_sem];omega)) only [go_sem,seval]<;>omega))
     all_goals try (intro _ _ h;exact h.elim)
     all_goals clear hrk
     all_goals rw [zRes]
     all_goals try (simp (disch:=first|omega|(simp only [go_sem];omega)) only [go_sem,seval])
     all_goals try simp [Wk,Wks,Wks_app]
     all_goals try omega
    ·have hl6:=hp.l6
     rcases stOf_cases L[k] with ⟨st,hst,e2⟩|⟨hst,e2⟩
     ·have hU:=ref_Unline L[k] hxk _ (.inl ⟨st,hst,rfl⟩)
      have hx6:=hst.2.1.x6
      by_cases hle:(preD L k).l.length<65536
      ·have hstp:stepP k (preD L k) L[k]=some ⟨(preD L k).s,(preD L k).l++[st],5⟩:=by
        unfold stepP;rw [e,e2];simp only [stepW,if_neg h3];rw [if_pos hle]
       rw [hstp] at hsu
       have hpe:=preD_eq hsu
       clear hstp hx hp hJ hst hno e2
       rw [← hpe] at hsu
       have hsn:sts (stl ((preD L k).l++[st]))=sts (stl (preD L k).l)++[.agg (spC st st.b.isEmpty .any)]:=by rw [stl_snoc,sts_snoc]
       have hsl:(sts (stl (preD L k).l)).length=(preD L k).l.length:=by rw [length_sts,length_stl]
       have hie:((preD L k).l++[st]).isEmpty=false:=by simp
       obtain ⟨kk,op,xs,a,w,b⟩:=st
       obtain ⟨x0,x1,x2,x3,x4,x5,rfl⟩:=six hx6
       simp only [spC_six] at hU hsn
       generalize hP:preD L (k+1)=P' at *
       subst hpe
       generalize L[k]=x at *
       generalize hPk:preD L k=p at *
       obtain ⟨⟨g,i,m,d,ee⟩,l,rk⟩:=p
       unfold rpS psO zS
       simp only at *
       repeat' (first|refine aC_seq ?_|refine aC_reg rfl ?_|refine aC_block ?_|refine aC_skip ?_|refine thenQ_normal ?_|refine blockQ_normal ?_|refine aL_nil ?_|(apply aL_step;(·exact True.intro);(iterate 2 (·simp (disch:=first|omega|(simp only [go_sem];omega)) only [go_sem,seval,hg,hlm,hmx,hsl,hm,drop32 hm,set32 hm,get32 hm,take32 hm]<;>with_reducible rfl));(·simp only [go_sem]<;>with_reducible rfl))|(refine aL_skip ?_ (by simp only [go_sem]<;>with_reducible rfl) ?_;(·simp (disch:=first|omega|(simp only [go_sem];omega)) only [go_sem,seval,hg,hlm,hmx,hsl,hm,drop32 hm,set32 hm,get32 hm,take32 hm]))|(apply aL_guardN;(·simp (disch:=first|omega|(simp only [go_sem];omega)) only [go_sem,seval,hg,hlm,hmx,hsl,hm,drop32 hm,set32 hm,get32 hm,take32 hm]<;>with_reducible rfl);all_goals (intro h;first|(exfalso;omega)|(simp only [h,decide_true,decide_false,not_true,not_false_iff])))|(apply aL_guardP;(·simp (disch:=first|omega|(simp only [go_sem];omega)) only [go_sem,seval,hg,hlm,hmx,hsl,hm,drop32 hm,set32 hm,get32 hm,take32 hm]<;>with_reducible rfl);all_goals (intro h;first|(exfalso;omega)|(simp only [h,decide_true,decide_false,not_true,not_false_iff])))|(refine aC_condF ?_ ?_;(·simp (disch:=first|omega|(simp only [go_sem];omega)) only [go_sem,seval,hg,hlm,hmx,hsl,hm,drop32 hm,set32 hm,get32 hm,take32 hm]))|(refine aC_condP (by simp (disch:=first|omega|(simp only [go_sem];omega)) only [go_sem,seval,hg,hlm,hmx,hsl,hm,drop32 hm,set32 hm,get32 hm,take32 hm]<;>with_reducible rfl) ?_ ?_<;>(intro h;first|(exfalso;omega)|skip))|(apply aL_pK cxG (hrk);(iterate 2 (·simp (disch:=first|omega|(simp only [go_sem];omega)) only [go_sem,seval,hg,hlm,hmx,hsl,hm,drop32 hm,set32 hm,get32 hm,take32 hm]<;>with_reducible rfl));(·simp only [go_sem]<;>with_reducible rfl);(·simp))|(apply aL_pK cxG (hU);(iterate 2 (·simp (disch:=first|omega|(simp only [go_sem];omega)) only [go_sem,seval,hg,hlm,hmx,hsl,hm,drop32 hm,set32 hm,get32 hm,take32 hm]<;>with_reducible rfl));(·simp only [go_sem]<;>with_reducible rfl);(·simp))|fail)
       all_goals try (first|exact True.intro|exact not_false|omega|(simp (disch:=first|omega|(simp only [go_sem];omega)) only [go_sem,seval]<;>omega))
       all_goals
       refine ⟨k+1,⟨by omega,by rw [hP];exact hsu⟩,?_,?_,by omega⟩
       ·rw [hP]
        exact Sub.of_all (by simp [Fr.get])
       ·rw [hP]
        simp only [hsn,hie]
        simp
        rw [length_sts,length_stl]
      ·have hpr:=parR_bad (rest:=rest) hlt hJ (by unfold stepP;rw [e,e2];simp only [stepW,if_neg h3];rw [if_neg hle])
       rw [hpr]
       have hsl:(sts (stl (preD L k).l)).length=(preD L k).l.length:=by rw [length_sts,length_stl]
       clear hpr hx hsu hJ hp hst hno e2
       obtain ⟨kk,op,xs,a,w,b⟩:=st
       obtain ⟨x0,x1,x2,x3,x4,x5,rfl⟩:=six hx6
       simp only [spC_six] at hU
       generalize L[k]=x at *
       generalize preD L k=p at *
       obtain ⟨⟨g,i,m,d,ee⟩,l,rk⟩:=p
       unfold rpS psO zS
       simp only at *
       repeat' (first|refine aC_seq ?_|refine aC_reg rfl ?_|refine aC_block ?_|refine aC_skip ?_|refine aC_ret ?_|refine thenQ_normal ?_|refine thenQ_ret ?_|refine blockQ_ret ?_|refine aL_nil ?_|(apply aL_step;(·exact True.intro);(iterate 2 (·simp (disch:=first|omega|(simp only [go_sem];omega)) only [go_sem,seval,hg,hlm,hmx,hsl,hm,drop32 hm,set32 hm,get32 hm,take32 hm]<;>with_reducible rfl));(·simp only [go_sem]<;>with_reducible rfl))|(refine aL_skip ?_ (by simp only [go_sem]<;>with_reducible rfl) ?_;(·simp (disch:=first|omega|(simp only [go_sem];omega)) only [go_sem,seval,hg,hlm,hmx,hsl,hm,drop32 hm,set32 hm,get32 hm,take32 hm]))|(apply aL_guardN;(·simp (disch:=first|omega|(simp only [go_sem];omega)) only [go_sem,seval,hg,hlm,hmx,hsl,hm,drop32 hm,set32 hm,get32 hm,take32 hm]<;>with_reducible rfl);all_goals (intro h;first|(exfalso;omega)|(simp only [h,decide_true,decide_false,not_true,not_false_iff])))|(apply aL_guardP;(·simp (disch:=first|omega|(simp only [go_sem];omega)) only [go_sem,seval,hg,hlm,hmx,hsl,hm,drop32 hm,set32 hm,get32 hm,take32 hm]<;>with_reducible rfl);all_goals (intro h;first|(exfalso;omega)|(simp only [h,decide_true,decide_false,not_true,not_false_iff])))|(refine aC_condF ?_ ?_;(·simp (disch:=first|omega|(simp only [go_sem];omega)) only [go_sem,seval,hg,hlm,hmx,hsl,hm,drop32 hm,set32 hm,get32 hm,take32 hm]))|(refine aC_condP (by simp (disch:=first|omega|(simp only [go_sem];omega)) only [go_sem,seval,hg,hlm,hmx,hsl,hm,drop32 hm,set32 hm,get32 hm,take32 hm]<;>with_reducible rfl) ?_ ?_<;>(intro h;first|(exfalso;omega)|skip))|(apply aL_pK cxG (hrk);(iterate 2 (·simp (disch:=first|omega|(simp only [go_sem];omega)) only [go_sem,seval,hg,hlm,hmx,hsl,hm,drop32 hm,set32 hm,get32 hm,take32 hm]<;>with_reducible rfl));(·simp only [go_sem]<;>with_reducible rfl);(·simp))|(apply aL_pK cxG (hU);(iterate 2 (·simp (disch:=first|omega|(simp only [go_sem];omega)) only [go_sem,seval,hg,hlm,hmx,hsl,hm,drop32 hm,set32 hm,get32 hm,take32 hm]<;>with_reducible rfl));(·simp only [go_sem]<;>with_reducible rfl);(·simp))|fail)
       all_goals try (first|exact True.intro|exact not_false|omega|(simp (disch:=first|omega|(simp only [go_sem];omega)) only [go_sem,seval]<;>omega))
       all_goals try (intro _ _ h;exact h.elim)
       all_goals clear hrk hU
       all_goals rw [zRes]
       all_goals try (simp (disch:=first|omega|(simp only [go_sem];omega)) only [go_sem,seval])
       all_goals try simp [Wk,Wks,Wks_app]
       all_goals try omega
     ·have hU:=ref_Unline L[k] hxk _ (.inr ⟨hst,rfl⟩)
      have hpr:=parR_bad (rest:=rest) hlt hJ (by unfold stepP;rw [e,e2];simp only [stepW,if_neg h3])
      rw [hpr]
      clear hpr hx hsu hJ hp hst hno e2
      simp only [Sp.zero,spC_six,bl_nil,nz] at hU
      generalize L[k]=x at *
      generalize preD L k=p at *
      obtain ⟨⟨g,i,m,d,ee⟩,l,rk⟩:=p
      unfold rpS psO zS
      simp only at *
      repeat' (first|refine aC_seq ?_|refine aC_reg rfl ?_|refine aC_block ?_|refine aC_skip ?_|refine aC_ret ?_|refine thenQ_normal ?_|refine thenQ_ret ?_|refine blockQ_ret ?_|refine aL_nil ?_|(apply aL_step;(·exact True.intro);(iterate 2 (·simp (disch:=first|omega|(simp only [go_sem];omega)) only [go_sem,seval,hg,hlm,hmx,hm,drop32 hm,set32 hm,get32 hm,take32 hm]<;>with_reducible rfl));(·simp only [go_sem]<;>with_reducible rfl))|(refine aL_skip ?_ (by simp only [go_sem]<;>with_reducible rfl) ?_;(·simp (disch:=first|omega|(simp only [go_sem];omega)) only [go_sem,seval,hg,hlm,hmx,hm,drop32 hm,set32 hm,get32 hm,take32 hm]))|(apply aL_guardN;(·simp (disch:=first|omega|(simp only [go_sem];omega)) only [go_sem,seval,hg,hlm,hmx,hm,drop32 hm,set32 hm,get32 hm,take32 hm]<;>with_reducible rfl);all_goals (intro h;first|(exfalso;omega)|(simp only [h,decide_true,decide_false,not_true,not_false_iff])))|(apply aL_guardP;(·simp (disch:=first|omega|(simp only [go_sem];omega)) only [go_sem,seval,hg,hlm,hmx,hm,drop32 hm,set32 hm,get32 hm,take32 hm]<;>with_reducible rfl);all_goals (intro h;first|(exfalso;omega)|(simp only [h,decide_true,decide_false,not_true,not_false_iff])))|(refine aC_condT ?_ ?_;(·simp (disch:=first|omega|(simp only [go_sem];omega)) only [go_sem,seval,hg,hlm,hmx,hm,drop32 hm,set32 hm,get32 hm,take32 hm]))|(refine aC_condF ?_ ?_;(·simp (disch:=first|omega|(simp only [go_sem];omega)) only [go_sem,seval,hg,hlm,hmx,hm,drop32 hm,set32 hm,get32 hm,take32 hm]))|(refine aC_condP (by simp (disch:=first|omega|(simp only [go_sem];omega)) only [go_sem,seval,hg,hlm,hmx,hm,drop32 hm,set32 hm,get32 hm,take32 hm]<;>with_reducible rfl) ?_ ?_<;>(intro h;first|(exfalso;omega)|skip))|(apply aL_pK cxG (hrk);(iterate 2 (·simp (disch:=first|omega|(simp only [go_sem];omega)) only [go_sem,seval,hg,hlm,hmx,hm,drop32 hm,set32 hm,get32 hm,take32 hm]<;>with_reducible rfl));(·simp only [go_sem]<;>with_reducible rfl);(·simp))|(apply aL_pK cxG (hU);(iterate 2 (·simp (disch:=first|omega|(simp only [go_sem];omega)) only [go_sem,seval,hg,hlm,hmx,hm,drop32 hm,set32 hm,get32 hm,take32 hm]<;>with_reducible rfl));(·simp only [go_sem]<;>with_reducible rfl);(·simp))|fail)
      all_goals try (first|exact True.intro|exact not_false|omega|(simp (disch:=first|omega|(simp only [go_sem];omega)) only [go_sem,seval]<;>omega))
      all_goals try (intro _ _ h;exact h.elim)
      all_goals clear hrk hU
      all_goals rw [zRes]
      all_goals try (simp (disch:=first|omega|(simp only [go_sem];omega)) only [go_sem,seval])
      all_goals try simp [Wk,Wks,Wks_app]
      all_goals try omega
  ·have hk':k=L.length:=by omega
   subst hk'
   by_cases hre:rest=[]
   ·subst hre
    by_cases h3:L.length<3
    ·have hpr:=parR_end (rest:=[]) hJ (.inr h3)
     rw [hpr]
     clear hJ hx hp hpr hpl
     generalize preD L L.length=p at *
     obtain ⟨⟨g,i,m,d,e⟩,l,rk⟩:=p
     unfold rpS psO zS
     simp only at *
     repeat' (first|refine aC_seq ?_|refine aC_reg rfl ?_|refine aC_exit ?_|refine aC_ret ?_|refine thenQ_normal ?_|refine thenQ_ret ?_|refine thenQ_exit ?_|refine blockQ_hit ?_|refine aL_nil ?_|(apply aL_step;(·exact True.intro);(iterate 2 (·simp (disch:=first|omega|(simp only [go_sem];omega)) only [go_sem,seval,eq_self_iff_true,decide_true,decide_false,not_false_eq_true,not_true_eq_false,hlm]<;>with_reducible rfl));(·simp only [go_sem]<;>with_reducible rfl))|(refine aC_condP (by simp (disch:=first|omega|(simp only [go_sem];omega)) only [go_sem,seval,eq_self_iff_true,decide_true,decide_false,not_false_eq_true,not_true_eq_false,hlm]<;>with_reducible rfl) ?_ ?_<;>(intro h;first|(exfalso;omega)|skip))|fail)
     all_goals try (first|exact True.intro|exact not_false|omega|(simp (disch:=first|omega|(simp only [go_sem];omega)) only [go_sem,seval]<;>omega))
     all_goals try (intro _ _ h;exact h.elim)
     all_goals rw [zRes]
     all_goals try (simp (disch:=first|omega|(simp only [go_sem];omega)) only [go_sem,seval])
     all_goals try simp [Wk,Wks,Wks_app]
     all_goals try omega
    ·have hpr:=parR_ok hJ (by omega)
     rw [hpr]
     clear hJ hx hp hpr hpl
     generalize preD L L.length=p at *
     obtain ⟨⟨g,i,m,d,e⟩,l,rk⟩:=p
     unfold rpS psO zS psR psC scC
     simp only at *
     repeat' (first|refine aC_seq ?_|refine aC_reg rfl ?_|refine aC_skip ?_|refine aC_exit ?_|refine aC_ret ?_|refine thenQ_normal ?_|refine thenQ_exit ?_|refine blockQ_hit ?_|refine aL_nil ?_|(apply aL_step;(·exact True.intro);(iterate 2 (·simp (disch:=first|omega|(simp only [go_sem];omega)) only [go_sem,seval,eq_self_iff_true,decide_true,decide_false,not_false_eq_true,not_true_eq_false,hlm,hm,drop32 hm,set32 hm,get32 hm,take32 hm]<;>with_reducible rfl));(·simp only [go_sem]<;>with_reducible rfl))|(refine aC_condP (by simp (disch:=first|omega|(simp only [go_sem];omega)) only [go_sem,seval,eq_self_iff_true,decide_true,decide_false,not_false_eq_true,not_true_eq_false,hlm,hm,drop32 hm,set32 hm,get32 hm,take32 hm]<;>with_reducible rfl) ?_ ?_<;>(intro h;first|(exfalso;omega)|skip))|fail)
     all_goals try (first|exact True.intro|exact not_false|omega|(simp (disch:=first|omega|(simp only [go_sem];omega)) only [go_sem,seval]<;>omega))
     all_goals try (intro _ _ h;exact h.elim)
     all_goals try (simp (disch:=first|omega|(simp only [go_sem];omega)) only [go_sem,seval])
     all_goals try simp [Wk,Wks,Wks_app]
     all_goals try omega
   ·have hpr:=parR_end hJ (.inl hre)
    rw [hpr]
    clear hJ hx hp hpr hpl
    generalize preD L L.length=p at *
    obtain ⟨⟨g,i,m,d,e⟩,l,rk⟩:=p
    unfold rpS psO zS
    simp only at *
    repeat' (first|refine aC_seq ?_|refine aC_reg rfl ?_|refine aC_exit ?_|refine aC_ret ?_|refine thenQ_normal ?_|refine thenQ_ret ?_|refine thenQ_exit ?_|refine blockQ_hit ?_|refine aL_nil ?_|(apply aL_step;(·exact True.intro);(iterate 2 (·simp (disch:=first|omega|(simp only [go_sem];omega)) only [go_sem,seval,hre,decide_true,decide_false,not_false_eq_true,hlm]<;>with_reducible rfl));(·simp only [go_sem]<;>with_reducible rfl))|(refine aL_skip ?_ (by simp only [go_sem]<;>with_reducible rfl) ?_;(·simp (disch:=first|omega|(simp only [go_sem];omega)) only [go_sem,seval,hre,decide_true,decide_false,not_false_eq_true,hlm]))|(refine aC_condT ?_ ?_;(·simp (disch:=first|omega|(simp only [go_sem];omega)) only [go_sem,seval,hre,decide_true,decide_false,not_false_eq_true,hlm]))|(refine aC_condP (by simp (disch:=first|omega|(simp only [go_sem];omega)) only [go_sem,seval,hre,decide_true,decide_false,not_false_eq_true,hlm]<;>with_reducible rfl) ?_ ?_<;>(intro h;first|(exfalso;omega)|skip))|fail)
    all_goals try (first|exact True.intro|exact not_false|omega|(simp (disch:=first|omega|(simp only [go_sem];omega)) only [go_sem,seval]<;>omega))
    all_goals try (intro _ _ h;exact h.elim)
    all_goals rw [zRes]
    all_goals try (simp (disch:=first|omega|(simp only [go_sem];omega)) only [go_sem,seval])
    all_goals try simp [Wk,Wks,Wks_app]
    all_goals try omega
 all_goals (intro _ _ h;exact h.elim)
end
end Go.Am
end
