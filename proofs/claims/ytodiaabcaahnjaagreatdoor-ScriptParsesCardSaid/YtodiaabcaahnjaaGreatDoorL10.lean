/- The document's cut, Op; its numbers. -/
import Derived.Test.YtodiaabcaahnjaaGreatDoorL08
set_option linter.unusedVariables false
set_option linter.unusedSimpArgs false
section
namespace Go.Am
open Go Go.Proofs
set_option maxHeartbeats 8000000
set_option maxRecDepth 100000
section
attribute [local irreducible] aC aL thenQ blockQ scopeQ ALoop AWp
theorem ref_cut0 (s:List UInt8) (c:UInt8) (hs:s.length≤1048576):APure cx 76 [.str s,.int .u8 (c.toNat:Nat)] (.sl 1 false ((cutA c [] s).map .str) .any):=by
 refine pure_fnK cxOk Tryz.func76 (fun _=>false) (fun _=>none) (by kernel_rfl) (by dsimp only [Tryz.f76,go_sem,seval,liteO,Option.map,List.map];exact .mk _) ?_
 dsimp only [Tryz.f76,frame0,List.zipIdx,List.map,Nat.reduceAdd]
 try simp only [List.getElem?_toArray,List.getElem?_cons_succ,List.getElem?_cons_zero,Option.bind_some]
 repeat' (first|refine aC_seq ?_|refine aC_reg rfl ?_|refine aC_block ?_|refine aC_loop ?_|refine thenQ_normal ?_|refine aL_nil ?_|(apply aL_step;(·exact True.intro);(iterate 2 (·simp (disch:=omega) only [go_sem,seval]<;>with_reducible rfl));(·simp only [go_sem]<;>with_reducible rfl))|fail)
 ·refine loop_rule (cxOk.wp _ _) (σ:=Nat × Nat × List (List UInt8)) (fun x=>[(5,.sl 1 x.2.2.isEmpty (x.2.2.map .str) (.grow 0)),(6,.int .i64 x.2.1),(7,.int .i64 x.1),(1,.int .u8 (c.toNat:Nat)),(0,.str s)])
   (fun x=>[.grow x.2.2.length 1 9]) (fun x=>s.length+1-x.1) (fun x=>x.2.2.length≤x.1∧((x.1≤s.length∧x.2.1≤x.1∧cutA c [] s=x.2.2++cutA c ((s.take x.1).drop x.2.1) (s.drop x.1))∨(x.1=s.length+1∧cutA c [] s=x.2.2)))
   (0,0,[]) (GStep.nil 5 1 9 rfl) ⟨⟨Nat.le_refl _,.inl ⟨Nat.zero_le _,Nat.le_refl _,by simp⟩⟩,Sub.of_all (by simp [Fr.get,frame0]),by simp⟩ ?_
  rintro ⟨i,at_,L⟩ ⟨hLi,hJ⟩
  simp only at hLi hJ ⊢
  rcases hJ with ⟨h1,h2,h3⟩|⟨h1,h3⟩
  ·by_cases hlt:i<s.length
   ·have hd:s.drop i=s[i]::s.drop (i+1):=List.drop_eq_getElem_cons hlt
    have hg:s.getD i 0=s[i]:=by simp [List.getD,hlt]
    have ht:(s.take (i+1)).drop at_=(s.take i).drop at_++[s[i]]:=by
     rw [List.take_succ_eq_append_getElem hlt,List.drop_append_of_le_length (by simp;omega)]
    rw [hd] at h3
    simp only [cutA] at h3
    by_cases h32:s[i]=c
    ·rw [if_pos h32] at h3
     repeat' (first|refine aC_seq ?_|refine aC_reg rfl ?_|refine aC_block ?_|refine aC_skip ?_|refine thenQ_normal ?_|refine blockQ_normal ?_|refine aL_nil ?_|(apply aL_step;(·exact True.intro);(iterate 2 (·simp (disch:=omega) only [go_sem,seval,hg,h32,eq_self_iff_true,decide_true]<;>with_reducible rfl));(·simp only [go_sem]<;>with_reducible rfl))|(apply aL_guardN;(·simp (disch:=omega) only [go_sem,seval,hg,h32,eq_self_iff_true,decide_true]<;>with_reducible rfl);all_goals (intro h;first|(exfalso;omega)|(simp only [h,decide_true,decide_false,not_true,not_false_iff])))|(refine aC_condT ?_ ?_;(·simp (disch:=omega) only [go_sem,seval,hg,h32,eq_self_iff_true,decide_true]))|(refine aC_condP (by simp (disch:=omega) only [go_sem,seval,hg,h32,eq_self_iff_true,decide_true]<;>with_reducible rfl) ?_ ?_<;>(intro h;first|(exfalso;omega)|skip))|fail)
     all_goals try (first|exact True.intro|exact not_false|omega|(simp (disch:=omega) only [go_sem,seval]<;>omega))
     all_goals exact ⟨(i+1,i+1,L++[(s.take i).drop at_]),⟨by simp;omega,.inl ⟨by omega,Nat.le_refl _,by rw [h3];simp⟩⟩,Sub.of_all (by simp [Fr.get]),by simp,by simp;omega⟩
    ·rw [if_neg h32,← ht] at h3
     have hne:¬ ((s[i].toNat:Int)=(c.toNat:Int)):=fun e=>h32 (UInt8.toNat_inj.1 (by omega))
     repeat' (first|refine aC_seq ?_|refine aC_reg rfl ?_|refine aC_block ?_|refine aC_skip ?_|refine thenQ_normal ?_|refine blockQ_normal ?_|refine aL_nil ?_|(apply aL_step;(·exact True.intro);(iterate 2 (·simp (disch:=omega) only [go_sem,seval,hg,hne,decide_false]<;>with_reducible rfl));(·simp only [go_sem]<;>with_reducible rfl))|(apply aL_guardN;(·simp (disch:=omega) only [go_sem,seval,hg,hne,decide_false]<;>with_reducible rfl);all_goals (intro h;first|(exfalso;omega)|(simp only [h,decide_true,decide_false,not_true,not_false_iff])))|(refine aC_condF ?_ ?_;(·simp (disch:=omega) only [go_sem,seval,hg,hne,decide_false]))|(refine aC_condP (by simp (disch:=omega) only [go_sem,seval,hg,hne,decide_false]<;>with_reducible rfl) ?_ ?_<;>(intro h;first|(exfalso;omega)|skip))|fail)
     all_goals try (first|exact True.intro|exact not_false|omega|(simp (disch:=omega) only [go_sem,seval]<;>omega))
     all_goals exact ⟨(i+1,at_,L),⟨by simp;omega,.inl ⟨by omega,by simp;omega,h3⟩⟩,Sub.of_all (by simp [Fr.get]),rfl,by simp;omega⟩
   ·have hi:i=s.length:=by omega
    subst hi
    repeat' (first|refine aC_seq ?_|refine aC_reg rfl ?_|refine aC_block ?_|refine aC_skip ?_|refine thenQ_normal ?_|refine blockQ_normal ?_|refine aL_nil ?_|(apply aL_step;(·exact True.intro);(iterate 2 (·simp (disch:=omega) only [go_sem,seval]<;>with_reducible rfl));(·simp only [go_sem]<;>with_reducible rfl))|(refine aL_skip ?_ (by simp only [go_sem]<;>with_reducible rfl) ?_;(·simp (disch:=omega) only [go_sem,seval]))|(refine aC_condT ?_ ?_;(·simp (disch:=omega) only [go_sem,seval]))|(refine aC_condP (by simp (disch:=omega) only [go_sem,seval]<;>with_reducible rfl) ?_ ?_<;>(intro h;first|(exfalso;omega)|skip))|fail)
    all_goals try (first|exact True.intro|exact not_false|omega|(simp (disch:=omega) only [go_sem,seval]<;>omega))
    all_goals exact ⟨(s.length+1,s.length+1,L++[s.drop at_]),⟨by simp;omega,.inr ⟨rfl,by rw [h3];simp [cutA]⟩⟩,Sub.of_all (by simp [Fr.get]),by simp,by simp⟩
  ·subst h1
   have hne:L.isEmpty=false:=by
    rw [← h3]
    cases hq:cutA c [] s with
    |nil=>exact absurd hq (cutA_ne c s [])
    |cons a l=>rfl
   subst h3
   repeat' (first|refine aC_seq ?_|refine aC_reg rfl ?_|refine aC_exit ?_|refine aC_ret ?_|refine thenQ_normal ?_|refine thenQ_exit ?_|refine blockQ_hit ?_|refine aL_nil ?_|(apply aL_step;(·exact True.intro);(iterate 2 (·simp (disch:=omega) only [go_sem,seval]<;>with_reducible rfl));(·simp only [go_sem]<;>with_reducible rfl))|(refine aC_condP (by simp (disch:=omega) only [go_sem,seval]<;>with_reducible rfl) ?_ ?_<;>(intro h;first|(exfalso;omega)|skip))|fail)
   all_goals try (first|exact True.intro|exact not_false|omega|(simp (disch:=omega) only [go_sem,seval]<;>omega))
   all_goals try (simp (disch:=omega) only [go_sem,seval,hne])
   all_goals try simp
 all_goals trivial
theorem ref_cut (s:List UInt8) (c:UInt8) (hs:s.length≤1048576):APure cx 76 [.str s,.int .u8 (c.toNat:Nat)] (.sl 1 false ((parts s [c]).map .str) .any):=by
 rw [← cutA_parts c _ s (Nat.le_refl _)]
 exact ref_cut0 s c hs
end
end Go.Am
end
section
namespace Go.Am
open Go Go.Proofs
set_option maxHeartbeats 8000000
set_option maxRecDepth 100000
section
attribute [local irreducible] aC aL thenQ blockQ scopeQ ALoop AWp
theorem ref_Op (n:List UInt8) (r:Int) (hr:((1≤r∧r≤21)∧cnm r=n)∨(r=0∧∀ op:Int,1≤op∧op≤21→cnm op≠n)):APure cx 77 [.str n] (.int .i64 r):=by
 have hn:=ref_names
 have hl:=names_len
 have hg:∀ k:Nat,1≤k→k≤21→(AVal.str []::OPS.map fun p=>AVal.str p.1).getD k .any = .str (cnm k):=fun k h1 h2=>by
  have:=names_get (op:=(k:Int)) ⟨by omega,by omega⟩
  rw [Int.toNat_natCast] at this
  exact this
 have hyes:∀ k:Nat,1≤k→k≤21→cnm k=n→r=(k:Int):=fun k h1 h2 h3=>by
  rcases hr with ⟨g1,g2⟩|⟨_,g⟩
  ·exact cnm_inj g1 ⟨by omega,by omega⟩ (g2.trans h3.symm)
  ·exact absurd h3 (g k ⟨by omega,by omega⟩)
 have hno:(∀ k:Nat,1≤k→k<22→cnm k≠n)→r=0:=fun h=>by
  rcases hr with ⟨g1,g2⟩|⟨g,_⟩
  ·exact absurd g2 (by
    have:=h r.toNat (by omega) (by omega)
    rwa [Int.toNat_of_nonneg (by omega)] at this)
  ·exact g
 clear hr
 generalize (AVal.str []::OPS.map fun p=>AVal.str p.1)=L at *
 refine pure_fnK cxOk Tryz.func77 (fun _=>false) (fun _=>none) (by kernel_rfl) (by dsimp only [Tryz.f77,go_sem,seval,liteO,Option.map,List.map];exact .mk _) ?_
 dsimp only [Tryz.f77,frame0,List.zipIdx,List.map,Nat.reduceAdd]
 try simp only [List.getElem?_toArray,List.getElem?_cons_succ,List.getElem?_cons_zero,Option.bind_some]
 repeat' (first|refine aC_seq ?_|refine aC_reg rfl ?_|refine aC_block ?_|refine aC_loop ?_|refine thenQ_normal ?_|refine aL_nil ?_|(apply aL_step;(·exact True.intro);(iterate 2 (·simp (disch:=omega) only [go_sem,seval]<;>with_reducible rfl));(·simp only [go_sem]<;>with_reducible rfl))|(apply aL_pK cxG (hn);(iterate 2 (·simp (disch:=omega) only [go_sem,seval]<;>with_reducible rfl));(·simp only [go_sem]<;>with_reducible rfl);(·simp))|fail)
 ·clear hn
  refine loop_rule (cxOk.wp _ _) (σ:=Nat) (fun k=>[(4,.int .i64 k),(3,.sl 1 false L .any),(0,.str n)])
   (fun _=>[]) (fun k=>22-k) (fun k=>1≤k∧k≤22∧∀ j:Nat,1≤j→j<k→cnm j≠n) 1 (GStep.refl _ _) ⟨⟨Nat.le_refl _,by decide,fun _ _ h=>by omega⟩,Sub.of_all (by simp [Fr.get,frame0]),rfl⟩ ?_
  rintro k ⟨h1,h2,hJ⟩
  by_cases hlt:k<22
  ·have hgk:=hg k h1 (by omega)
   by_cases he:cnm (k:Int)=n
   ·rw [hyes k h1 (by omega) he]
    have hb:(cnm (k:Int)==n)=true:=by simp [he]
    clear hyes hno hg hJ
    generalize cnm (k:Int)=W at *
    repeat' (first|refine aC_seq ?_|refine aC_reg rfl ?_|refine aC_block ?_|refine aC_skip ?_|refine aC_ret ?_|refine thenQ_normal ?_|refine thenQ_ret ?_|refine blockQ_ret ?_|refine aL_nil ?_|(apply aL_step;(·exact True.intro);(iterate 2 (·simp (disch:=omega) only [go_sem,seval,hgk,hl,hb,he,eq_self_iff_true,decide_true]<;>with_reducible rfl));(·simp only [go_sem]<;>with_reducible rfl))|(refine aC_condT ?_ ?_;(·simp (disch:=omega) only [go_sem,seval,hgk,hl,hb,he,eq_self_iff_true,decide_true]))|(refine aC_condP (by simp (disch:=omega) only [go_sem,seval,hgk,hl,hb,he,eq_self_iff_true,decide_true]<;>with_reducible rfl) ?_ ?_<;>(intro h;first|(exfalso;omega)|skip))|fail)
    all_goals try (first|exact True.intro|exact not_false|omega|(simp (disch:=omega) only [go_sem,seval]<;>omega))
    all_goals try (simp (disch:=omega) only [go_sem,seval])
    all_goals try simp
   ·have hb:(cnm (k:Int)==n)=false:=by simp [he]
    have hJ':∀ j:Nat,1≤j→j<k+1→cnm j≠n:=fun j g1 g2=>by
     by_cases e:j=k
     ·rw [e];exact he
     ·exact hJ j g1 (by omega)
    clear hyes hno hg hJ
    generalize cnm (k:Int)=W at *
    repeat' (first|refine aC_seq ?_|refine aC_reg rfl ?_|refine aC_block ?_|refine aC_skip ?_|refine thenQ_normal ?_|refine blockQ_normal ?_|refine aL_nil ?_|(apply aL_step;(·exact True.intro);(iterate 2 (·simp (disch:=omega) only [go_sem,seval,hgk,hl,hb,he,decide_false]<;>with_reducible rfl));(·simp only [go_sem]<;>with_reducible rfl))|(refine aC_condF ?_ ?_;(·simp (disch:=omega) only [go_sem,seval,hgk,hl,hb,he,decide_false]))|(refine aC_condP (by simp (disch:=omega) only [go_sem,seval,hgk,hl,hb,he,decide_false]<;>with_reducible rfl) ?_ ?_<;>(intro h;first|(exfalso;omega)|skip))|fail)
    all_goals try (first|exact True.intro|exact not_false|omega|(simp (disch:=omega) only [go_sem,seval]<;>omega))
    all_goals exact ⟨k+1,⟨by omega,by omega,hJ'⟩,Sub.of_all (by simp [Fr.get]),rfl,by omega⟩
  ·have hk':k=22:=by omega
   subst hk'
   rw [hno hJ]
   clear hyes hno hg hJ
   repeat' (first|refine aC_seq ?_|refine aC_reg rfl ?_|refine aC_exit ?_|refine aC_ret ?_|refine thenQ_normal ?_|refine thenQ_exit ?_|refine blockQ_hit ?_|refine aL_nil ?_|(apply aL_step;(·exact True.intro);(iterate 2 (·simp (disch:=omega) only [go_sem,seval,hl]<;>with_reducible rfl));(·simp only [go_sem]<;>with_reducible rfl))|(refine aC_condF ?_ ?_;(·simp (disch:=omega) only [go_sem,seval,hl]))|fail)
   all_goals try (first|exact True.intro|exact not_false|omega|(simp (disch:=omega) only [go_sem,seval]<;>omega))
   all_goals try (simp (disch:=omega) only [go_sem,seval])
   all_goals try simp
 all_goals trivial
theorem rnum_nil {y:List UInt8}:rnum (y.take 0)=0:=rfl
def rargs (wr:List (List UInt8)) (k:Nat):List Nat:=(wr.map rnum).take k++List.replicate (6-k) 0
theorem rargs_len (wr:List (List UInt8)) (k:Nat) (h:k≤wr.length) (h6:k≤6):(rargs wr k).length=6:=by simp [rargs];omega
theorem rargs_succ (wr:List (List UInt8)) (k:Nat) (h:k<wr.length) (h6:k<6):(rargs wr k).set k (rnum wr[k])=rargs wr (k+1):=by
 have hl:k<(wr.map rnum).length:=by simp;exact h
 unfold rargs
 rw [List.set_append_right _ _ (by rw [List.length_take];omega),List.take_succ_eq_append_getElem hl]
 obtain ⟨m,hm⟩ : ∃ m,6-k=m+1:=⟨5-k,by omega⟩
 rw [hm,List.replicate_succ,show 6-(k+1)=m by omega]
 have:k-((wr.map rnum).take k).length=0:=by simp;omega
 rw [this]
 simp
theorem rargs_at (wr:List (List UInt8)) (k:Nat) (h:k≤wr.length) (h6:k<6):(rargs wr k).getD k 0=0:=by
 unfold rargs
 rw [List.getD_eq_getElem?_getD,List.getElem?_append_right (by rw [List.length_take];omega)]
 cases he:(List.replicate (6-k) 0)[k-((wr.map rnum).take k).length]? with
 |none=>rfl
 |some v=>exact (List.mem_replicate.1 (List.mem_of_getElem? he)).2
theorem rargs_lt (wr:List (List UInt8)) (k:Nat):∀ x∈rargs wr k,x<18446744073709551616:=by
 intro x hx
 unfold rargs at hx
 rcases List.mem_append.1 hx with h|h
 ·obtain ⟨y,_,rfl⟩:=List.mem_map.1 (List.mem_of_mem_take h)
  exact rnum_lt y
 ·rw [(List.mem_replicate.1 h).2];decide
theorem rargs_dec {op:Int} {xs:List Nat} (hm:MayC op xs) (hx:xs.length=6) (hw:∀ x∈xs,x<18446744073709551616):rargs ((xs.take (car op)).map Lib.decDigits) (car op)=xs:=by
 have hc:=car_le op
 have h1:((xs.take (car op)).map Lib.decDigits).map rnum=xs.take (car op):=by
  rw [List.map_map]
  have:∀ x∈xs.take (car op),(rnum ∘ Lib.decDigits) x=id x:=fun x hx=>rnum_dec x (hw x (List.mem_of_mem_take hx))
  rw [List.map_congr_left this,List.map_id]
 unfold rargs
 rw [h1,List.take_of_length_le (by rw [List.length_take];omega)]
 exact may_pad hm hx
theorem set_getD (l:List Nat) (k v:Nat) (h:k<l.length):(l.set k v).getD k 0=v:=by simp [List.getD,h]
theorem set_set (l:List Nat) (k v w:Nat):(l.set k v).set k w=l.set k w:=by simp
theorem set_self (l:List Nat) (k:Nat) (h:k<l.length) (v:Nat) (e:l.getD k 0=v):l.set k v=l:=by
 subst e
 have:l.getD k 0=l[k]:=by simp [List.getD,h]
 rw [this,List.set_getElem_self]
end
end Go.Am
end
section
namespace Go.Am
open Go Go.Proofs
set_option maxHeartbeats 8000000
set_option maxRecDepth 100000
section
attribute [local irreducible] aC aL thenQ blockQ scopeQ ALoop AWp rst rnum
theorem i_sub (k:Nat):((k:Int)+1-1)=(k:Int):=by omega
theorem ref_Untext (s:List UInt8) (hs:s.length≤1048576) (r:AVal) (hr:(∃ op xs,IsCall s op xs∧r = .tup [.agg (.int .i64 op::wl xs),.bool true]) ∨
  ((∀ op xs,¬ IsCall s op xs)∧r = .tup [.agg [.int .i64 0,.int .u64 0,.int .u64 0,.int .u64 0,.int .u64 0,.int .u64 0,.int .u64 0],.bool false])):APure cx 35 [.str s] r:=by
 have hyes:∀ op xs,IsCall s op xs→r = .tup [.agg (.int .i64 op::wl xs),.bool true]:=by
  intro op xs h
  rcases hr with ⟨op',xs',h',e⟩|⟨h',_⟩
  ·obtain ⟨rfl,rfl⟩:=call_unique h h'
   exact e
  ·exact absurd h (h' _ _)
 have hno:(∀ op xs,¬ IsCall s op xs)→r = .tup [.agg [.int .i64 0,.int .u64 0,.int .u64 0,.int .u64 0,.int .u64 0,.int .u64 0,.int .u64 0],.bool false]:=by
  intro h
  rcases hr with ⟨op',xs',h',e⟩|⟨_,e⟩
  ·exact absurd h' (h _ _)
  ·exact e
 clear hr
 have hcut:=ref_cut s 32 hs
 obtain ⟨w0,wr,hw,hl⟩:=parts_len s [32] (by decide)
 have hz:=parts_sizes s [32]
 rw [hw] at hcut hz
 rw [show (((32:UInt8).toNat:Nat):Int)=32 from rfl] at hcut
 simp only [List.map_cons] at hcut
 have hop:∃ q:Int,((1≤q∧q≤21)∧cnm q=w0)∨(q=0∧∀ op:Int,1≤op∧op≤21→cnm op≠w0):=by
  by_cases h:∃ q:Int,(1≤q∧q≤21)∧cnm q=w0
  ·obtain ⟨q,hq⟩:=h;exact ⟨q,.inl hq⟩
  ·exact ⟨0,.inr ⟨rfl,fun op ho e=>h ⟨op,ho,e⟩⟩⟩
 obtain ⟨q,hq⟩:=hop
 have hO:=ref_Op w0 q hq
 have hI:=ref_is q
 have hA:=ref_Arity q
 have hml:maxLen=9223372036854775807:=rfl
 by_cases h200:s.length≤200
 case neg =>
  rw [hno fun op xs h=>h200 (by have:=ctx_len (op:=op) h.2.2.1;rw [h.2.2.2] at this;omega)]
  clear hyes hno
  refine pure_fnK cxOk Tryz.func35 (fun _=>false) (fun _=>none) (by kernel_rfl) (by dsimp only [Tryz.f35,go_sem,seval,liteO,Option.map,List.map];exact .mk _) ?_
  dsimp only [Tryz.f35,frame0,List.zipIdx,List.map,Nat.reduceAdd]
  try simp only [List.getElem?_toArray,List.getElem?_cons_succ,List.getElem?_cons_zero,Option.bind_some]
  repeat' (first|refine aC_seq ?_|refine aC_reg rfl ?_|refine aC_ret ?_|refine thenQ_normal ?_|refine thenQ_ret ?_|refine aL_nil ?_|(apply aL_step;(·exact True.intro);(iterate 2 (·simp (disch:=omega) only [go_sem,seval]<;>with_reducible rfl));(·simp only [go_sem]<;>with_reducible rfl))|(refine aL_skip ?_ (by simp only [go_sem]<;>with_reducible rfl) ?_;(·simp (disch:=omega) only [go_sem,seval]))|(apply aL_guardN;(·simp (disch:=omega) only [go_sem,seval]<;>with_reducible rfl);all_goals (intro h;first|(exfalso;omega)|(simp only [h,decide_true,decide_false,not_true,not_false_iff])))|(refine aC_condT ?_ ?_;(·simp (disch:=omega) only [go_sem,seval]))|(apply aL_pK cxG (hcut);(iterate 2 (·simp (disch:=omega) only [go_sem,seval]<;>with_reducible rfl));(·simp only [go_sem]<;>with_reducible rfl);(·simp))|(apply aL_pK cxG (hO);(iterate 2 (·simp (disch:=omega) only [go_sem,seval]<;>with_reducible rfl));(·simp only [go_sem]<;>with_reducible rfl);(·simp))|fail)
  all_goals try (first|exact True.intro|exact not_false|omega|(simp (disch:=omega) only [go_sem,seval]<;>omega))
  all_goals first|trivial|omega|exact fun _ _ h=>h.elim|skip
  all_goals try (simp (disch:=omega) only [go_sem,seval])
  all_goals try simp
 case pos =>
 rcases hq with ⟨hq,rfl⟩|⟨rfl,hq⟩
 case inr =>
  rw [hno fun op xs h=>by
   have:=call_parts h
   rw [hw] at this
   exact hq op h.1.1 (List.cons.inj this).1.symm]
  rw [decide_eq_false (by omega)] at hI
  clear hyes hno
  refine pure_fnK cxOk Tryz.func35 (fun _=>false) (fun _=>none) (by kernel_rfl) (by dsimp only [Tryz.f35,go_sem,seval,liteO,Option.map,List.map];exact .mk _) ?_
  dsimp only [Tryz.f35,frame0,List.zipIdx,List.map,Nat.reduceAdd]
  try simp only [List.getElem?_toArray,List.getElem?_cons_succ,List.getElem?_cons_zero,Option.bind_some]
  repeat' (first|refine aC_seq ?_|refine aC_reg rfl ?_|refine aC_ret ?_|refine thenQ_normal ?_|refine thenQ_ret ?_|refine aL_nil ?_|(apply aL_step;(·exact True.intro);(iterate 2 (·simp (disch:=omega) only [go_sem,seval]<;>with_reducible rfl));(·simp only [go_sem]<;>with_reducible rfl))|(refine aL_skip ?_ (by simp only [go_sem]<;>with_reducible rfl) ?_;(·simp (disch:=omega) only [go_sem,seval]))|(apply aL_guardN;(·simp (disch:=omega) only [go_sem,seval]<;>with_reducible rfl);all_goals (intro h;first|(exfalso;omega)|(simp only [h,decide_true,decide_false,not_true,not_false_iff])))|(refine aC_condT ?_ ?_;(·simp (disch:=omega) only [go_sem,seval]))|(apply aL_pK cxG (hcut);(iterate 2 (·simp (disch:=omega) only [go_sem,seval]<;>with_reducible rfl));(·simp only [go_sem]<;>with_reducible rfl);(·simp))|(apply aL_pK cxG (hO);(iterate 2 (·simp (disch:=omega) only [go_sem,seval]<;>with_reducible rfl));(·simp only [go_sem]<;>with_reducible rfl);(·simp))|(apply aL_pK cxG (hI);(iterate 2 (·simp (disch:=omega) only [go_sem,seval]<;>with_reducible rfl));(·simp only [go_sem]<;>with_reducible rfl);(·simp))|fail)
  all_goals try (first|exact True.intro|exact not_false|omega|(simp (disch:=omega) only [go_sem,seval]<;>omega))
  all_goals first|trivial|omega|exact fun _ _ h=>h.elim|skip
  all_goals try (simp (disch:=omega) only [go_sem,seval])
  all_goals try simp
 case inl =>
 rw [decide_eq_true hq] at hI
 rw [if_pos hq] at hA
 have hlm:(wr.map AVal.str).length=wr.length:=List.length_map _
 by_cases hK:wr.length=car q
 case neg =>
  rw [hno fun op xs h=>by
   have:=call_parts h
   rw [hw] at this
   have ho:op=q:=cnm_inj h.1.1 hq (List.cons.inj this).1.symm
   subst ho
   apply hK
   rw [(List.cons.inj this).2,List.length_map,List.length_take,h.2.1]
   have:=car_le op
   omega]
  have hK':¬ ((wr.length:Int)=(car q:Int)):=by omega
  have hc:=car_le q
  clear hyes hno
  generalize car q=K at *
  generalize cnm q=W at *
  refine pure_fnK cxOk Tryz.func35 (fun _=>false) (fun _=>none) (by kernel_rfl) (by dsimp only [Tryz.f35,go_sem,seval,liteO,Option.map,List.map];exact .mk _) ?_
  dsimp only [Tryz.f35,frame0,List.zipIdx,List.map,Nat.reduceAdd]
  try simp only [List.getElem?_toArray,List.getElem?_cons_succ,List.getElem?_cons_zero,Option.bind_some]
  repeat' (first|refine aC_seq ?_|refine aC_reg rfl ?_|refine aC_ret ?_|refine thenQ_normal ?_|refine thenQ_ret ?_|refine aL_nil ?_|(apply aL_step;(·exact True.intro);(iterate 2 (·simp (disch:=omega) only [go_sem,seval,hlm]<;>with_reducible rfl));(·simp only [go_sem]<;>with_reducible rfl))|(apply aL_guardN;(·simp (disch:=omega) only [go_sem,seval,hlm]<;>with_reducible rfl);all_goals (intro h;first|(exfalso;omega)|(simp only [h,decide_true,decide_false,not_true,not_false_iff])))|(refine aC_condP (by simp (disch:=omega) only [go_sem,seval,hlm]<;>with_reducible rfl) ?_ ?_<;>(intro h;first|(exfalso;omega)|skip))|(apply aL_pK cxG (hcut);(iterate 2 (·simp (disch:=omega) only [go_sem,seval,hlm]<;>with_reducible rfl));(·simp only [go_sem]<;>with_reducible rfl);(·simp))|(apply aL_pK cxG (hO);(iterate 2 (·simp (disch:=omega) only [go_sem,seval,hlm]<;>with_reducible rfl));(·simp only [go_sem]<;>with_reducible rfl);(·simp))|(apply aL_pK cxG (hI);(iterate 2 (·simp (disch:=omega) only [go_sem,seval,hlm]<;>with_reducible rfl));(·simp only [go_sem]<;>with_reducible rfl);(·simp))|(apply aL_pK cxG (hA);(iterate 2 (·simp (disch:=omega) only [go_sem,seval,hlm]<;>with_reducible rfl));(·simp only [go_sem]<;>with_reducible rfl);(·simp))|fail)
  all_goals try (first|exact True.intro|exact not_false|omega|(simp (disch:=omega) only [go_sem,seval]<;>omega))
  all_goals first|trivial|omega|exact fun _ _ h=>h.elim|skip
  all_goals try (simp (disch:=omega) only [go_sem,seval])
  all_goals try simp
 case pos =>
 have hc:=car_le q
 have hwp:∀ x∈wr,x.length≤1048576:=fun x hx=>Nat.le_trans (hz x (List.mem_cons_of_mem _ hx)) hs
 have hrl:=rargs_len wr
 have hrs:=rargs_succ wr
 have hra:=rargs_at wr
 have hrt:=ref_Text q (rargs wr wr.length) (hrl wr.length (Nat.le_refl _) (by omega)) (rargs_lt wr wr.length) hq
 have hfin:(ctx q (rargs wr wr.length)=s→r = .tup [.agg (.int .i64 q::wl (rargs wr wr.length)),.bool true])∧(ctx q (rargs wr wr.length)≠s→r = .tup [.agg [.int .i64 0,.int .u64 0,.int .u64 0,.int .u64 0,.int .u64 0,.int .u64 0,.int .u64 0],.bool false]):=by
  refine ⟨fun e=>hyes q _ ⟨⟨hq,fun x hx=>?_⟩,hrl wr.length (Nat.le_refl _) (by omega),rargs_lt wr wr.length,e⟩,fun e=>hno fun op xs h=>e ?_⟩
  ·unfold rargs at hx
   rw [List.drop_append,List.drop_eq_nil_of_le (by rw [List.length_take];omega),List.nil_append] at hx
   exact (List.mem_replicate.1 (List.mem_of_mem_drop hx)).2
  ·have:=call_parts h
   rw [hw] at this
   have ho:op=q:=cnm_inj h.1.1 hq (List.cons.inj this).1.symm
   subst ho
   rw [hK,(List.cons.inj this).2,rargs_dec h.1 h.2.1 h.2.2.1,h.2.2.2]
 clear hyes hno hz hl hw
 generalize hKK:car q=K at *
 generalize cnm q=W at *
 refine pure_fnK cxOk Tryz.func35 (fun _=>false) (fun _=>none) (by kernel_rfl) (by dsimp only [Tryz.f35,go_sem,seval,liteO,Option.map,List.map];exact .mk _) ?_
 dsimp only [Tryz.f35,frame0,List.zipIdx,List.map,Nat.reduceAdd]
 try simp only [List.getElem?_toArray,List.getElem?_cons_succ,List.getElem?_cons_zero,Option.bind_some]
 repeat' (first|refine aC_seq ?_|refine aC_reg rfl ?_|refine aC_block ?_|refine aC_skip ?_|refine aC_loop ?_|refine thenQ_normal ?_|refine aL_nil ?_|(apply aL_step;(·exact True.intro);(iterate 2 (·simp (disch:=omega) only [go_sem,seval,hlm]<;>with_reducible rfl));(·simp only [go_sem]<;>with_reducible rfl))|(apply aL_guardN;(·simp (disch:=omega) only [go_sem,seval,hlm]<;>with_reducible rfl);all_goals (intro h;first|(exfalso;omega)|(simp only [h,decide_true,decide_false,not_true,not_false_iff])))|(refine aC_condP (by simp (disch:=omega) only [go_sem,seval,hlm]<;>with_reducible rfl) ?_ ?_<;>(intro h;first|(exfalso;omega)|skip))|(apply aL_pK cxG (hcut);(iterate 2 (·simp (disch:=omega) only [go_sem,seval,hlm]<;>with_reducible rfl));(·simp only [go_sem]<;>with_reducible rfl);(·simp))|(apply aL_pK cxG (hO);(iterate 2 (·simp (disch:=omega) only [go_sem,seval,hlm]<;>with_reducible rfl));(·simp only [go_sem]<;>with_reducible rfl);(·simp))|(apply aL_pK cxG (hI);(iterate 2 (·simp (disch:=omega) only [go_sem,seval,hlm]<;>with_reducible rfl));(·simp only [go_sem]<;>with_reducible rfl);(·simp))|(apply aL_pK cxG (hA);(iterate 2 (·simp (disch:=omega) only [go_sem,seval,hlm]<;>with_reducible rfl));(·simp only [go_sem]<;>with_reducible rfl);(·simp))|fail)
 ·clear hcut hO hI hA
  refine loop_rule (cxOk.wp _ _) (σ:=Nat) (fun j=>[(6,.int .i64 ((j:Int)+1)),(5,.ptr 1 0),(4,.sl 1 false (.str W::wr.map .str) .any),(2,.ptr 0 0),(0,.str s)])
   (fun j=>[.cells [.int .i64 0,.int .u64 0,.int .u64 0,.int .u64 0,.int .u64 0,.int .u64 0,.int .u64 0] 28,.cells (.int .i64 q::wl (rargs wr j)) 28]) (fun j=>wr.length-j) (fun j=>j≤wr.length) 0 (GStep.refl _ _) ⟨Nat.zero_le _,Sub.of_all (by simp [Fr.get]),by simp [rargs,wl]⟩ ?_
  intro j hj
  have hlj:=hrl j hj (by omega)
  by_cases hlt:j<wr.length
  ·have hx:=hwp wr[j] (List.getElem_mem hlt)
   have hsj:=hrs j hlt (by omega)
   have haj:=hra j hj (by omega)
   have eg:(wr.map AVal.str).getD j .any = .str wr[j]:=by simp [List.getD,hlt]
   clear hfin hrt hrl hrs hra hwp
   generalize wr[j]=y at *
   generalize hD:rargs wr j=D at *
   repeat' (first|refine aC_seq ?_|refine aC_reg rfl ?_|refine aC_block ?_|refine aC_skip ?_|refine aC_loop ?_|refine thenQ_normal ?_|refine aL_nil ?_|(apply aL_step;(·exact True.intro);(iterate 2 (·simp (disch:=omega) only [go_sem,seval,hlm]<;>with_reducible rfl));(·simp only [go_sem]<;>with_reducible rfl))|(refine aC_condP (by simp (disch:=omega) only [go_sem,seval,hlm]<;>with_reducible rfl) ?_ ?_<;>(intro h;first|(exfalso;omega)|skip))|fail)
   ·refine loop_rule (cxOk.wp _ _) (σ:=Nat) (fun k=>[(7,.int .i64 k),(6,.int .i64 ((j:Int)+1)),(5,.ptr 1 0),(4,.sl 1 false (.str W::wr.map .str) .any),(2,.ptr 0 0),(0,.str s)])
     (fun k=>[.cells [.int .i64 0,.int .u64 0,.int .u64 0,.int .u64 0,.int .u64 0,.int .u64 0,.int .u64 0] 28,.cells (.int .i64 q::wl (D.set j (rnum (y.take k)))) 28]) (fun k=>y.length-k) (fun k=>k≤y.length) 0 (GStep.refl _ _) ⟨Nat.zero_le _,Sub.of_all (by simp [Fr.get]),by rw [set_self D j (by omega) _ (haj.trans rnum_nil.symm)]⟩ ?_
    intro k hk
    have hjD:j<(D.set j (rnum (y.take k))).length:=by rw [List.length_set];omega
    have hgj:(D.set j (rnum (y.take k))).getD j 0=rnum (y.take k):=set_getD D j _ (by omega)
    by_cases hky:k<y.length
    ·have hst:=rnum_take y k hky
     have hrq:=rst_eq (rnum (y.take k)) y[k]
     have hgk:y.getD k 0=y[k]:=by simp [List.getD,hky]
     have hss:∀ v,(D.set j (rnum (y.take k))).set j v=D.set j v:=fun v=>set_set D j _ v
     have hcl:=u8_lt y[k]
     rw [← hst] at hrq
     generalize hv2:rnum (y.take (k+1))=v2 at *
     generalize rnum (y.take k)=v1 at *
     generalize y[k]=c at *
     repeat' (first|refine aC_seq ?_|refine aC_reg rfl ?_|refine aC_block ?_|refine aC_skip ?_|refine thenQ_normal ?_|refine blockQ_normal ?_|refine aL_nil ?_|(apply aL_step;(·exact True.intro);(iterate 2 (·simp (disch:=omega) only [go_sem,seval,hlm,eg,hgk,i_sub,hgj,hrq,hss]<;>with_reducible rfl));(·simp only [go_sem]<;>with_reducible rfl))|(refine aC_condP (by simp (disch:=omega) only [go_sem,seval,hlm,eg,hgk,i_sub,hgj,hrq,hss]<;>with_reducible rfl) ?_ ?_<;>(intro h;first|(exfalso;omega)|skip))|fail)
     all_goals try (first|exact True.intro|exact not_false|omega|(simp (disch:=omega) only [go_sem,seval]<;>omega))
     all_goals first|omega|exact ⟨k+1,by omega,Sub.of_all (by simp [Fr.get]),by simp [hss,hv2],by omega⟩
    ·have hk':k=y.length:=by omega
     subst hk'
     rw [List.take_length,hsj]
     repeat' (first|refine aC_seq ?_|refine aC_reg rfl ?_|refine aC_exit ?_|refine thenQ_normal ?_|refine blockQ_normal ?_|refine thenQ_exit ?_|refine blockQ_hit ?_|refine aL_nil ?_|(apply aL_step;(·exact True.intro);(iterate 2 (·simp (disch:=omega) only [go_sem,seval,hlm,eg]<;>with_reducible rfl));(·simp only [go_sem]<;>with_reducible rfl))|(refine aC_condP (by simp (disch:=omega) only [go_sem,seval,hlm,eg]<;>with_reducible rfl) ?_ ?_<;>(intro h;first|(exfalso;omega)|skip))|fail)
     all_goals try (first|exact True.intro|exact not_false|omega|(simp (disch:=omega) only [go_sem,seval]<;>omega))
     all_goals first|omega|exact ⟨j+1,by omega,Sub.of_all (by simp [Fr.get]),rfl,by omega⟩
   all_goals first|trivial|omega
  ·have hj':j=wr.length:=by omega
   subst hj'
   clear hrl hrs hra hwp
   generalize rargs wr wr.length=D at *
   by_cases he:ctx q D=s
   ·rw [hfin.1 he]
    rw [he] at hrt
    clear hfin
    repeat' (first|refine aC_seq ?_|refine aC_reg rfl ?_|refine aC_skip ?_|refine aC_exit ?_|refine aC_ret ?_|refine thenQ_normal ?_|refine thenQ_exit ?_|refine blockQ_hit ?_|refine aL_nil ?_|(apply aL_step;(·exact True.intro);(iterate 2 (·simp (disch:=omega) only [go_sem,seval,hlm,bne_self_eq_false,eq_self_iff_true,decide_true,decide_false,not_true_eq_false]<;>with_reducible rfl));(·simp only [go_sem]<;>with_reducible rfl))|(refine aC_condF ?_ ?_;(·simp (disch:=omega) only [go_sem,seval,hlm,bne_self_eq_false,eq_self_iff_true,decide_true,decide_false,not_true_eq_false]))|(refine aC_condP (by simp (disch:=omega) only [go_sem,seval,hlm,bne_self_eq_false,eq_self_iff_true,decide_true,decide_false,not_true_eq_false]<;>with_reducible rfl) ?_ ?_<;>(intro h;first|(exfalso;omega)|skip))|(apply aL_pK cxG (hrt);(iterate 2 (·simp (disch:=omega) only [go_sem,seval,hlm,bne_self_eq_false,eq_self_iff_true,decide_true,decide_false,not_true_eq_false]<;>with_reducible rfl));(·simp only [go_sem]<;>with_reducible rfl);(·simp))|fail)
    all_goals try (first|exact True.intro|exact not_false|omega|(simp (disch:=omega) only [go_sem,seval]<;>omega))
    all_goals first|omega|skip
    all_goals try (simp (disch:=omega) only [go_sem,seval])
    all_goals try simp
    all_goals omega
   ·rw [hfin.2 he]
    have hb:(ctx q D==s)=false:=by simp [he]
    clear hfin
    generalize ctx q D=X at *
    repeat' (first|refine aC_seq ?_|refine aC_reg rfl ?_|refine aC_exit ?_|refine aC_ret ?_|refine thenQ_normal ?_|refine thenQ_ret ?_|refine thenQ_exit ?_|refine blockQ_hit ?_|refine aL_nil ?_|(apply aL_step;(·exact True.intro);(iterate 2 (·simp (disch:=omega) only [go_sem,seval,hlm,hb,he,decide_true,decide_false,not_false_eq_true]<;>with_reducible rfl));(·simp only [go_sem]<;>with_reducible rfl))|(refine aC_condT ?_ ?_;(·simp (disch:=omega) only [go_sem,seval,hlm,hb,he,decide_true,decide_false,not_false_eq_true]))|(refine aC_condP (by simp (disch:=omega) only [go_sem,seval,hlm,hb,he,decide_true,decide_false,not_false_eq_true]<;>with_reducible rfl) ?_ ?_<;>(intro h;first|(exfalso;omega)|skip))|(apply aL_pK cxG (hrt);(iterate 2 (·simp (disch:=omega) only [go_sem,seval,hlm,hb,he,decide_true,decide_false,not_false_eq_true]<;>with_reducible rfl));(·simp only [go_sem]<;>with_reducible rfl);(·simp))|fail)
    all_goals try (first|exact True.intro|exact not_false|omega|(simp (disch:=omega) only [go_sem,seval]<;>omega))
    all_goals first|omega|exact fun _ _ h=>h.elim|skip
    all_goals try (simp (disch:=omega) only [go_sem,seval])
    all_goals try simp
    all_goals omega
 all_goals first|trivial|omega|exact fun _ _ h=>h.elim|simp
end
end Go.Am
end
