/- strings.Split (the shelf's). -/
import Derived.Test.YtodiaabcaahnjaaGreatDoorP06
import Derived.Test.YtodiaabcaahnjaaGreatDoorL03
set_option linter.unusedVariables false
set_option linter.unusedSimpArgs false
section
namespace Go.Am
open Go Go.Proofs
set_option maxHeartbeats 8000000
set_option maxRecDepth 100000
section
attribute [local irreducible] aC aL thenQ blockQ scopeQ ALoop AWp
theorem a_split (s p:List UInt8) (hs:s.length≤4294967280) (hp:1≤p.length):APure cx 100 [.str s,.str p] (.sl 1 false ((parts s p).map .str) .full) :=
 apure_shelf (vs:=[.string ⟨s.toArray⟩,.string ⟨p.toArray⟩]) (callable_of Tryz.func100 (by kernel_rfl) (by kernel_rfl)) rfl fun w im0 hG=>by
  obtain ⟨m,hm⟩:=GL.int (E:=env0 w im0) (hG 0 _ rfl)
  have hz:(⟨s.toArray⟩ : ByteArray).size=s.length:=rfl
  have hzp:(⟨p.toArray⟩ : ByteArray).size=p.length:=rfl
  refine (Tryz.strings_Split ⟨s.toArray⟩ ⟨p.toArray⟩ m w (by omega) hm (by omega)).mono fun e w' h=>?_
  obtain ⟨rfl,rfl⟩:=h
  have hlen:=Lib.splitB_all ⟨p.toArray⟩ (by omega) 0 _ ⟨s.toArray⟩ rfl
  have hle:=Lib.countB_le ⟨p.toArray⟩ (by omega) _ ⟨s.toArray⟩ (Nat.le_refl _)
  have hml:maxLen=9223372036854775807:=rfl
  refine ⟨_,rfl,grown_alloc _ _,?_⟩
  unfold parts
  generalize Lib.splitB ⟨p.toArray⟩ 0 (Lib.countB ⟨s.toArray⟩ ⟨p.toArray⟩) ⟨s.toArray⟩=l at hlen ⊢
  rw [← hlen]
  have:=r_sl_alloc (w:=w) (im0:=im0) (t:=9) (xs:=(l.map fun b=>b.data.toList).map .str) (vs:=l.map Value.string) (by simp) (by simp;omega) (by simp [AVal.cells]) (fun j h h'=>by
   simp only [List.getElem_map]
   exact ⟨.str _ _ rfl,rfl⟩)
  simpa using this
end
end Go.Am
end
section
namespace Go.Am
open Go Go.Proofs
set_option maxHeartbeats 8000000
set_option maxRecDepth 100000
section
attribute [local irreducible] aC aL thenQ blockQ scopeQ ALoop AWp
def ctxK (op:Int) (xs:List Nat) (k:Nat):List UInt8:=cnm op++(xs.take k).flatMap fun x=>32::Lib.decDigits x
def ctx (op:Int) (xs:List Nat):List UInt8:=ctxK op xs (car op)
theorem ctx_eq (op:Int) (xs:List Nat):ctx op xs=ctxK op xs (car op):=rfl
theorem cnm_le (op:Int):(cnm op).length≤10:=by
 by_cases h:1≤op∧op≤21
 ·exact (cnm_in h).2.1
 ·rw [cnm_out h];simp
theorem tail_len:∀ {xs:List Nat},(∀ x∈xs,x<18446744073709551616)→(xs.flatMap fun x=>32::Lib.decDigits x).length≤21*xs.length
 |[],_=>by simp
 |x::xs,h=>by
  have ih:=tail_len fun y hy=>h y (List.mem_cons_of_mem _ hy)
  have:=dec_len x (h x (List.mem_cons_self ..))
  simp only [List.flatMap_cons,List.length_append,List.length_cons]
  omega
theorem ctx_len {op:Int} {xs:List Nat} (hw:∀ x∈xs,x<18446744073709551616):(ctx op xs).length≤115:=by
 have h1:=cnm_le op
 have h2:=tail_len (xs:=xs.take (car op)) fun x h=>hw x (List.mem_of_mem_take h)
 have h3:=car_le op
 have h4:(xs.take (car op)).length≤car op:=by rw [List.length_take];omega
 unfold ctx ctxK
 rw [List.length_append]
 omega
theorem call_text0 (op:Int) (xs:List Nat) (hx:xs.length=6) (hw:∀ x∈xs,x<18446744073709551616):ACall cx 101 [.agg (.int .i64 op::wl xs),.map 0] [.mpx TABLE 21] (.str (ctx op xs)) [.mpx TABLE 21]:=by
 have hl:=look_tbl (fun _=>false) (fun _=>none) (S:=[.mpx TABLE 21,.cells (.int .i64 op::wl xs) 28]) (b:=0) op rfl
 have hc:=car_le op
 have hcn:=cnm_le op
 have hml:maxLen=9223372036854775807:=rfl
 have key:ACall cx 101 [.agg (.int .i64 op::wl xs),.map 0] [.mpx TABLE 21] (.str (ctx op xs)) [.mpx TABLE 21,.cells (.int .i64 op::wl xs) 28,.cells [.str (cnm op),.int .i64 (car op:Nat)] 155]:=by
  rw [ctx_eq]
  have hk1:=tbl_keys op
  have hk2:=tbl_one op
  unfold ctxK
  generalize cnm op=W at *
  generalize car op=K at *
  refine acall_fnK cxOk Tryz.func101 (fun _=>false) (fun _=>none) (by kernel_rfl) (by dsimp only [Tryz.f101,go_sem,seval,liteO,Option.map,List.map];exact .mk _) ?_
  dsimp only [Tryz.f101,frame0,List.zipIdx,List.map,Nat.reduceAdd]
  try simp only [List.getElem?_toArray,List.getElem?_cons_succ,List.getElem?_cons_zero,Option.bind_some]
  repeat' (first|refine aC_seq ?_|refine aC_reg rfl ?_|refine aC_block ?_|refine aC_loop ?_|refine thenQ_normal ?_|refine aL_nil ?_|(apply aL_step;(·exact True.intro);(iterate 2 (·simp (disch:=omega) only [go_sem,seval,Nat.mul_one]<;>with_reducible rfl));(·simp only [go_sem]<;>with_reducible rfl))|(apply aL_lookX (hl);(case hg=>(simp (disch:=omega) only [go_sem,seval,Nat.mul_one]));(case hm=>(simp (disch:=omega) only [go_sem,seval,Nat.mul_one]<;>with_reducible rfl));(case hk=>(simp (disch:=omega) only [go_sem,seval,Nat.mul_one]<;>with_reducible rfl));(case hf=>(simp only [go_sem]<;>with_reducible rfl)))|fail)
  ·refine loop_rule (cxOk.wp _ _) (σ:=Nat) (fun k=>[(20,.int .i64 k),(19,.int .i64 K),(18,.view 1 1 K 6),(6,.str (W++(xs.take k).flatMap fun x=>32::Lib.decDigits x))])
    (fun _=>[.mpx TABLE 21,.cells (.int .i64 op::wl xs) 28,.cells [.str W,.int .i64 (K:Nat)] 155]) (fun k=>K-k) (fun k=>k≤K) 0 (GStep.refl _ _) ⟨Nat.zero_le _,Sub.of_all (by simp [Fr.get]),rfl⟩ ?_
   intro k hk
   have htl:=tail_len (fun x h=>hw x (List.mem_of_mem_take h)) (xs:=xs.take k)
   have htk:(xs.take k).length≤6:=by rw [List.length_take];omega
   by_cases hlt:k<K
   ·have hkx:k<xs.length:=by omega
    have hxw:=hw (xs.getD k 0) (by simp [List.getD,hkx])
    have hf:=a_fmt (xs.getD k 0) hxw
    have hfl:=dec_len (xs.getD k 0) hxw
    have ht:(W++(xs.take (k+1)).flatMap fun x=>32::Lib.decDigits x)=(W++(xs.take k).flatMap fun x=>32::Lib.decDigits x)++([32]++Lib.decDigits (xs.getD k 0)):=by
     rw [List.take_succ_eq_append_getElem hkx,List.flatMap_append,← List.append_assoc]
     simp [List.getD,hkx]
    have hXl:(W++(xs.take k).flatMap fun x=>32::Lib.decDigits x).length≤200:=by rw [List.length_append];omega
    generalize (W++(xs.take k).flatMap fun x=>32::Lib.decDigits x)=X at *
    generalize Lib.decDigits (xs.getD k 0)=D at *
    repeat' (first|refine aC_seq ?_|refine aC_reg rfl ?_|refine aC_block ?_|refine aC_skip ?_|refine thenQ_normal ?_|refine blockQ_normal ?_|refine aL_nil ?_|(apply aL_step;(·exact True.intro);(iterate 2 (·simp (disch:=omega) only [go_sem,seval,Nat.mul_one]<;>with_reducible rfl));(·simp only [go_sem]<;>with_reducible rfl))|(refine aC_condP (by simp (disch:=omega) only [go_sem,seval,Nat.mul_one]<;>with_reducible rfl) ?_ ?_<;>(intro h;first|(exfalso;omega)|skip))|(apply aL_pK cxG (hf);(iterate 2 (·simp (disch:=omega) only [go_sem,seval,Nat.mul_one]<;>with_reducible rfl));(·simp only [go_sem]<;>with_reducible rfl);(·simp))|fail)
    all_goals try (first|exact True.intro|exact not_false|omega|(simp (disch:=omega) only [go_sem,seval]<;>omega))
    all_goals exact ⟨k+1,by omega,Sub.of_all (by simp [Fr.get,ht]),rfl,by omega⟩
   ·have hk':k=K:=by omega
    subst hk'
    clear htl
    generalize (W++(xs.take k).flatMap fun x=>32::Lib.decDigits x)=X at *
    repeat' (first|refine aC_seq ?_|refine aC_reg rfl ?_|refine aC_exit ?_|refine aC_ret ?_|refine thenQ_normal ?_|refine thenQ_exit ?_|refine blockQ_hit ?_|refine aL_nil ?_|(apply aL_step;(·exact True.intro);(iterate 2 (·simp (disch:=omega) only [go_sem,seval]<;>with_reducible rfl));(·simp only [go_sem]<;>with_reducible rfl))|(refine aC_condP (by simp (disch:=omega) only [go_sem,seval]<;>with_reducible rfl) ?_ ?_<;>(intro h;first|(exfalso;omega)|skip))|fail)
    all_goals try (first|exact True.intro|exact not_false|omega|(simp (disch:=omega) only [go_sem,seval]<;>omega))
    all_goals try (simp (disch:=omega) only [go_sem,seval])
    all_goals try simp
  all_goals first|trivial|exact ⟨hk1,hk2⟩|(simp (disch:=omega) only [go_sem,seval,Nat.mul_one];omega)|omega
 exact ACall.drop cxG key (n:=1) (by simp) rfl (by kernel_rfl)
theorem call_textF (c1 c2 c3 c4:ABox) (op:Int) (xs:List Nat) (hx:xs.length=6) (hw:∀ x∈xs,x<18446744073709551616) (hb:belS 5 [.frz (some TABLE),c1,c2,c3,c4]=true):ACall cx 101 [.agg (.int .i64 op::wl xs),.map 0] [.frz (some TABLE),c1,c2,c3,c4] (.str (ctx op xs)) [.frz (some TABLE),c1,c2,c3,c4]:=by
 have hl:=look_tbl (fun _=>false) (fun _=>none) (S:=[.frz (some TABLE),c1,c2,c3,c4,.cells (.int .i64 op::wl xs) 28]) (b:=0) op rfl
 have hc:=car_le op
 have hcn:=cnm_le op
 have hml:maxLen=9223372036854775807:=rfl
 have key:ACall cx 101 [.agg (.int .i64 op::wl xs),.map 0] [.frz (some TABLE),c1,c2,c3,c4] (.str (ctx op xs)) [.frz (some TABLE),c1,c2,c3,c4,.cells (.int .i64 op::wl xs) 28,.cells [.str (cnm op),.int .i64 (car op:Nat)] 155]:=by
  rw [ctx_eq]
  have hk1:=tbl_keys op
  have hk2:=tbl_one op
  unfold ctxK
  generalize cnm op=W at *
  generalize car op=K at *
  refine acall_fnK cxOk Tryz.func101 (fun _=>false) (fun _=>none) (by kernel_rfl) (by dsimp only [Tryz.f101,go_sem,seval,liteO,Option.map,List.map];exact .mk _) ?_
  dsimp only [Tryz.f101,frame0,List.zipIdx,List.map,Nat.reduceAdd]
  try simp only [List.getElem?_toArray,List.getElem?_cons_succ,List.getElem?_cons_zero,Option.bind_some]
  repeat' (first|refine aC_seq ?_|refine aC_reg rfl ?_|refine aC_block ?_|refine aC_loop ?_|refine thenQ_normal ?_|refine aL_nil ?_|(apply aL_step;(·exact True.intro);(iterate 2 (·simp (disch:=omega) only [go_sem,seval,Nat.mul_one]<;>with_reducible rfl));(·simp only [go_sem]<;>with_reducible rfl))|(apply aL_lookX (hl);(case hg=>(simp (disch:=omega) only [go_sem,seval,Nat.mul_one]));(case hm=>(simp (disch:=omega) only [go_sem,seval,Nat.mul_one]<;>with_reducible rfl));(case hk=>(simp (disch:=omega) only [go_sem,seval,Nat.mul_one]<;>with_reducible rfl));(case hf=>(simp only [go_sem]<;>with_reducible rfl)))|fail)
  ·refine loop_rule (cxOk.wp _ _) (σ:=Nat) (fun k=>[(20,.int .i64 k),(19,.int .i64 K),(18,.view 5 1 K 6),(6,.str (W++(xs.take k).flatMap fun x=>32::Lib.decDigits x))])
    (fun _=>[.frz (some TABLE),c1,c2,c3,c4,.cells (.int .i64 op::wl xs) 28,.cells [.str W,.int .i64 (K:Nat)] 155]) (fun k=>K-k) (fun k=>k≤K) 0 (GStep.refl _ _) ⟨Nat.zero_le _,Sub.of_all (by simp [Fr.get]),rfl⟩ ?_
   intro k hk
   have htl:=tail_len (fun x h=>hw x (List.mem_of_mem_take h)) (xs:=xs.take k)
   have htk:(xs.take k).length≤6:=by rw [List.length_take];omega
   by_cases hlt:k<K
   ·have hkx:k<xs.length:=by omega
    have hxw:=hw (xs.getD k 0) (by simp [List.getD,hkx])
    have hf:=a_fmt (xs.getD k 0) hxw
    have hfl:=dec_len (xs.getD k 0) hxw
    have ht:(W++(xs.take (k+1)).flatMap fun x=>32::Lib.decDigits x)=(W++(xs.take k).flatMap fun x=>32::Lib.decDigits x)++([32]++Lib.decDigits (xs.getD k 0)):=by
     rw [List.take_succ_eq_append_getElem hkx,List.flatMap_append,← List.append_assoc]
     simp [List.getD,hkx]
    have hXl:(W++(xs.take k).flatMap fun x=>32::Lib.decDigits x).length≤200:=by rw [List.length_append];omega
    generalize (W++(xs.take k).flatMap fun x=>32::Lib.decDigits x)=X at *
    generalize Lib.decDigits (xs.getD k 0)=D at *
    repeat' (first|refine aC_seq ?_|refine aC_reg rfl ?_|refine aC_block ?_|refine aC_skip ?_|refine thenQ_normal ?_|refine blockQ_normal ?_|refine aL_nil ?_|(apply aL_step;(·exact True.intro);(iterate 2 (·simp (disch:=omega) only [go_sem,seval,Nat.mul_one]<;>with_reducible rfl));(·simp only [go_sem]<;>with_reducible rfl))|(refine aC_condP (by simp (disch:=omega) only [go_sem,seval,Nat.mul_one]<;>with_reducible rfl) ?_ ?_<;>(intro h;first|(exfalso;omega)|skip))|(apply aL_pK cxG (hf);(iterate 2 (·simp (disch:=omega) only [go_sem,seval,Nat.mul_one]<;>with_reducible rfl));(·simp only [go_sem]<;>with_reducible rfl);(·simp))|fail)
    all_goals try (first|exact True.intro|exact not_false|omega|(simp (disch:=omega) only [go_sem,seval]<;>omega))
    all_goals exact ⟨k+1,by omega,Sub.of_all (by simp [Fr.get,ht]),rfl,by omega⟩
   ·have hk':k=K:=by omega
    subst hk'
    clear htl
    generalize (W++(xs.take k).flatMap fun x=>32::Lib.decDigits x)=X at *
    repeat' (first|refine aC_seq ?_|refine aC_reg rfl ?_|refine aC_exit ?_|refine aC_ret ?_|refine thenQ_normal ?_|refine thenQ_exit ?_|refine blockQ_hit ?_|refine aL_nil ?_|(apply aL_step;(·exact True.intro);(iterate 2 (·simp (disch:=omega) only [go_sem,seval]<;>with_reducible rfl));(·simp only [go_sem]<;>with_reducible rfl))|(refine aC_condP (by simp (disch:=omega) only [go_sem,seval]<;>with_reducible rfl) ?_ ?_<;>(intro h;first|(exfalso;omega)|skip))|fail)
    all_goals try (first|exact True.intro|exact not_false|omega|(simp (disch:=omega) only [go_sem,seval]<;>omega))
    all_goals try (simp (disch:=omega) only [go_sem,seval])
    all_goals try simp
  all_goals first|trivial|exact ⟨hk1,hk2⟩|(simp (disch:=omega) only [go_sem,seval,Nat.mul_one];omega)|omega
 exact ACall.drop cxG key (n:=5) (by simp) rfl (hb)
theorem call_text {op:Int} {xs:List Nat} (hx:xs.length=6) (hw:∀ x∈xs,x<18446744073709551616) {S:St} {i:Nat} (hS:S[i]? = some (.mpx TABLE 21)):ACall cx 101 [.agg (.int .i64 op::wl xs),.map i] S (.str (ctx op xs)) S :=
 ACall.lendX cxG (call_text0 op xs hx hw) (by kernel_rfl) rfl hS rfl fun j h1 h0=>by
  match j,h1 with
  |0,_=>exact .inl ⟨plain_cv op xs,rfl⟩
  |1,_=>exact .inr ⟨rfl,rfl⟩
theorem call_Text (op:Int) (xs:List Nat) (hx:xs.length=6) (hw:∀ x∈xs,x<18446744073709551616) :
  APure cx 73 [.agg (.int .i64 op::wl xs)] (if MayC op xs then .tup [.str (ctx op xs),.int .i64 0] else .tup [.str [],.int .i64 2]):=by
 have hm:=call_may (op:=op) (xs:=xs) hx (S:=[.cells (.int .i64 op::wl xs) 28]++[.mpx TABLE 21]) (i:=1) rfl
 have ht:=call_text (op:=op) hx hw (S:=[.cells (.int .i64 op::wl xs) 28]++[.mpx TABLE 21]) (i:=1) rfl
 by_cases h:MayC op xs
 case' pos=>rw [if_pos h];rw [decide_eq_true h] at hm
 case' neg=>rw [if_neg h];rw [decide_eq_false h] at hm
 all_goals
 clear h
 generalize ctx op xs=X at *
 refine pure_fnK cxOk Tryz.func73 (fun _=>false) (fun _=>none) (by kernel_rfl) (by dsimp only [Tryz.f73,go_sem,seval,liteO,Option.map,List.map];exact .mk _) ?_
 dsimp only [Tryz.f73,frame0,List.zipIdx,List.map,Nat.reduceAdd]
 try simp only [List.getElem?_toArray,List.getElem?_cons_succ,List.getElem?_cons_zero,Option.bind_some]
 repeat' (first|refine aC_seq ?_|refine aC_reg rfl ?_|refine aC_skip ?_|refine aC_ret ?_|refine thenQ_normal ?_|refine thenQ_ret ?_|refine aL_nil ?_|(apply aL_step;(·exact True.intro);(iterate 2 (·simp (disch:=omega) only [go_sem,seval]<;>with_reducible rfl));(·simp only [go_sem]<;>with_reducible rfl))|(refine aC_condT ?_ ?_;(·simp (disch:=omega) only [go_sem,seval]))|(refine aC_condF ?_ ?_;(·simp (disch:=omega) only [go_sem,seval]))|(apply aL_aK (call_table _);(·rfl);(iterate 2 (·simp (disch:=omega) only [go_sem,seval]<;>with_reducible rfl));(·simp only [go_sem]<;>with_reducible rfl))|(apply aL_aK (hm);(·rfl);(iterate 2 (·simp (disch:=omega) only [go_sem,seval]<;>with_reducible rfl));(·simp only [go_sem]<;>with_reducible rfl))|(apply aL_aK (ht);(·rfl);(iterate 2 (·simp (disch:=omega) only [go_sem,seval]<;>with_reducible rfl));(·simp only [go_sem]<;>with_reducible rfl))|fail)
 all_goals try (first|exact True.intro|exact not_false|omega|(simp (disch:=omega) only [go_sem,seval]<;>omega))
 all_goals (clear hm ht)
 all_goals try (simp (disch:=omega) only [go_sem,seval])
 all_goals try simp
end
end Go.Am
end
