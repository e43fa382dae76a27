/- sayings' map; script.take, from any state that has it. -/
import Derived.Test.YtodiaabcaahnjaaGreatDoorS27
import Derived.Test.YtodiaabcaahnjaaGreatDoorAmFreshM
set_option linter.unusedVariables false
set_option linter.unusedSimpArgs false
section
namespace Go.Am
open Go Go.Proofs
set_option maxHeartbeats 8000000
set_option maxRecDepth 100000
section
attribute [local irreducible] aC aL thenQ blockQ scopeQ ALoop AWp
def IDEAL:List UInt8:=[105,100,101,97,108]
def CONC:List UInt8:=[99,111,110,99,114,101,116,101]
def HEXF:AVal:=.cptr [.fn (.func 84) [] []]
def sayE (h b1 b2:AVal):List (AVal × AVal × Nat):=[(.str GRAN,.agg [.int .i64 0,.fn (.func 87) [] []],0),(.str IDEAL,.agg [.int .i64 1,.fn (.func 86) [] [b1]],1),
 (.str CONC,.agg [.int .i64 1,.fn (.func 86) [] [b2]],2),(.str MASTER,.agg [.int .i64 2,.fn (.func 88) [] [h]],3),
 (.str DRAW,.agg [.int .i64 3,.fn (.func 89) [] [h]],4),(.str ENTR,.agg [.int .i64 4,.fn (.func 90) [] []],5)]
def SAY:List (AVal × AVal × Nat):=sayE HEXF (.cptr [.bool true]) (.cptr [.bool false])
def sayT:St:=[.cells [.fn (.func 84) [] []] 140,.mp (sayE (.ptr 0 0) (.ptr 2 0) (.ptr 3 0)) 6,.cells [.bool true] 4,.cells [.bool false] 4]
theorem say_run:ACall cx 41 [] [] (.map 1) sayT:=xACallS tabOk 1000 (e:=fe41) (by kernel_rfl) (by decide) (by kernel_rfl)
theorem say_map (S:St):ACall cx 41 [] S (.map S.length) (S++[.mp SAY 6]):=by
 have h:=ACall.freshM cxG say_run (i:=1) (es:=sayE (.ptr 0 0) (.ptr 2 0) (.ptr 3 0)) (c:=6) rfl (by kernel_rfl) rfl S
 exact h
theorem suC_len (s:Su) (nd ne:Bool) (h:s.m.length=32):(suC s nd ne).length=36:=by simp [suC,h]
theorem one_suC (s:Su) (nd ne:Bool):(∀ x∈suC s nd ne,x.one=true)↔True:=⟨fun _=>trivial,fun _ x hx=>by
 simp only [suC,List.mem_cons,List.mem_append,List.not_mem_nil,or_false] at hx
 rcases hx with rfl|rfl|hx|rfl|rfl
 ·rfl
 ·rfl
 ·exact (okc_bl _).2 trivial x hx
 ·rfl
 ·rfl⟩
theorem closed_suC (s:Su) (nd ne:Bool):(∀ x∈suC s nd ne,Closed x)↔True:=⟨fun _=>trivial,fun _ x hx=>clos_ok _ (bels_suC 0 s nd ne) x hx⟩
theorem at2 {α:Type} {l r:List α} {x y z:α} {n:Nat} (h:l.length+2=n):(l++x::y::z::r)[n]? = some z:=by subst h;rw [List.getElem?_append_right (by omega)];simp
theorem set2 {α:Type} {l r:List α} {x y z u:α} {n:Nat} (h:l.length+2=n):(l++x::y::z::r).set n u=l++x::y::u::r:=by subst h;rw [List.set_append_right _ _ (by omega)];simp
attribute [go_sem] one_suC at2 set2
attribute [simp] closed_suC
def zeroSay:AVal:=.agg [.int .i64 0,.nilfn]
theorem say_look (S:St) (i:Nat) (hS:S[i]? = some (.mp SAY 6)) (w:List UInt8) (p:FuncId→Bool) (q:Nat→Option UL) :
  aLookup (cx.wp p q) S 90 (.map i) (.str w) true=some ⟨keysOk cx 9 (.str w) SAY,.tup [lookV (.str w) SAY zeroSay,.bool (findK (.str w) SAY).isSome],S⟩:=by
 unfold aLookup
 rw [show (cx.wp p q).T 90=some ti90 from T90]
 show (match (cx.wp p q).T 144 with|none=>none|some j=>_)=_
 rw [show (cx.wp p q).T 144=some ti144 from T144]
 simp only [hS]
 rfl
theorem say_keys (w:List UInt8):keysOk cx 9 (.str w) SAY:=by
 have h1:∀ w:List UInt8,keyFit cx 9 (.str w)=true:=fun w=>by kernel_rfl
 refine ⟨h1 w,fun e he=>?_⟩
 simp only [SAY,sayE,List.mem_cons,List.not_mem_nil,or_false] at he
 rcases he with rfl|rfl|rfl|rfl|rfl|rfl<;>exact h1 _
def zeroC:List AVal:=.int .i64 0 :: .bool false::(bl (List.replicate 32 0)++[.sl 1 true [] .any,.sl 1 true [] .any])
theorem one_zeroC:(∀ x∈zeroC,x.one=true)↔True:=⟨fun _=>trivial,fun _ x hx=>by
 simp only [zeroC,List.mem_cons,List.mem_append,List.not_mem_nil,or_false] at hx
 rcases hx with rfl|rfl|hx|rfl|rfl
 ·rfl
 ·rfl
 ·exact (okc_bl _).2 trivial x hx
 ·rfl
 ·rfl⟩
theorem take_core (S:St) (i n:Nat) (hS:S[i]? = some (.mp SAY 6)) (hn:S.length=n) (hb:belS n S=true) (hin:i<n) (line:List UInt8) (hline:line.length≤1048576) (s s':Su) (nd ne nd' ne':Bool) (hcl:(suC s nd ne).length=36) (hcl':(suC s' nd' ne').length=36)
  (k:Int) (f:FuncId) (caps:List AVal) (ok:Bool) (X:List UInt8) (hcap:caps=[]∨caps=[.cptr [.fn (.func 84) [] []]]∨∃ b,caps=[.cptr [.bool b]])
  (hlook:lookV (.str (Lib.cut line [32]).1) SAY zeroSay = .agg [.int .i64 k,.fn (.func f) [] caps]) (hfind:(findK (.str (Lib.cut line [32]).1) SAY).isSome=true)
  (hf:APure cx f ([.agg (suC s nd ne),.str (Lib.cut line [32]).2.1]++caps) (.tup [.agg (suC s' nd' ne'),.bool ok])) (hlast:ok=true→APure cx 98 [.str (Lib.cut line [32]).1,.agg (suC s' nd' ne')] (.str X)) :
  ACall cx 64 [.agg (suC s nd ne),.str line,.map i] S (if ok=true∧X=line then .tup [.agg (suC s' nd' ne'),.int .i64 k,.bool true] else .tup [.agg zeroC,.int .i64 5,.bool false]) S:=by
 have hcut:=a_cutB line (by omega)
 have hky:=say_keys (Lib.cut line [32]).1
 have hSR:∀ R:St,(S++R)[i]? = some (.mp SAY 6):=fun R=>by rw [List.getElem?_append_left (by omega)];exact hS
 have hlk:=fun (R:St)=>say_look (S++R) i (hSR R) (Lib.cut line [32]).1 (fun _=>false) fe64.q
 rw [hlook,hfind] at hlk
 clear hlook hfind
 have hw1:=bels_suC n s' nd' ne'
 have hsl:=hcl
 generalize (Lib.cut line [32]).1=W at *
 generalize (Lib.cut line [32]).2.2=fl at *
 generalize (Lib.cut line [32]).2.1=R at *
 have key:∃ T:St,ACall cx 64 [.agg (suC s nd ne),.str line,.map i] S (if ok=true∧X=line then .tup [.agg (suC s' nd' ne'),.int .i64 k,.bool true] else .tup [.agg zeroC,.int .i64 5,.bool false]) (S++T):=by
  cases ok
  case' false =>
   rw [if_neg (by simp)]
   have hlast:True:=trivial
   have hX:True:=trivial
   refine ⟨[.cells zeroC 45,.cells [.int .i64 k,.fn (.func f) [] caps] 144,.cells (suC s' nd' ne') 45],?_⟩
  case' true =>
   have hlast:=hlast rfl
   by_cases hX:X=line
   case' pos =>
    rw [if_pos ⟨rfl,hX⟩]
    refine ⟨[.cells (suC s' nd' ne') 45,.cells [.int .i64 k,.fn (.func f) [] caps] 144,.cells (suC s' nd' ne') 45],?_⟩
   case' neg =>
    rw [if_neg (fun h=>hX h.2)]
    refine ⟨[.cells zeroC 45,.cells [.int .i64 k,.fn (.func f) [] caps] 144,.cells (suC s' nd' ne') 45],?_⟩
  all_goals rcases hcap with rfl|rfl|⟨b,rfl⟩
  all_goals
  simp only [List.append_nil,List.cons_append,List.nil_append] at hf
  refine acall_fnK cxOk Tryz.func64 (fun _=>false) (fe64.q) (by kernel_rfl) (by dsimp only [Tryz.f64,go_sem,seval,liteO,Option.map,List.map];exact .mk _) ?_
  dsimp only [Tryz.f64,frame0,List.zipIdx,List.map,Nat.reduceAdd]
  try simp only [List.getElem?_toArray,List.getElem?_cons_succ,List.getElem?_cons_zero,Option.bind_some]
  repeat' (first|(apply aL_boxI;(case hg=>(simp (disch:=first|omega|(simp only [go_sem];omega)) only [go_sem,seval,eq_self_iff_true,decide_true,decide_false,not_true_eq_false,not_false_eq_true,hn,hcl,hcl',hX,List.append_assoc,Nat.add_assoc]));(case h=>(simp (disch:=first|omega|(simp only [go_sem];omega)) only [go_sem,seval,eq_self_iff_true,decide_true,decide_false,not_true_eq_false,not_false_eq_true,hn,hcl,hcl',hX,List.append_assoc,Nat.add_assoc]<;>with_reducible rfl));(case hf=>(simp only [go_sem]<;>with_reducible rfl));(case hs=>(simp (disch:=first|omega|(simp only [go_sem];omega)) only [go_sem,seval,eq_self_iff_true,decide_true,decide_false,not_true_eq_false,not_false_eq_true,hn,hcl,hcl',hX,List.append_assoc,Nat.add_assoc])))|refine aC_seq ?_|refine aC_reg rfl ?_|refine aC_skip ?_|refine aC_ret ?_|refine thenQ_normal ?_|refine thenQ_ret ?_|refine aL_nil ?_|(apply aL_step;(·exact True.intro);(iterate 2 (·simp (disch:=first|omega|(simp only [go_sem];omega)) only [go_sem,seval,eq_self_iff_true,decide_true,decide_false,not_true_eq_false,not_false_eq_true,hn,hcl,hcl',hX,List.append_assoc,Nat.add_assoc]<;>with_reducible rfl));(·simp only [go_sem]<;>with_reducible rfl))|(refine aL_skip ?_ (by simp only [go_sem]<;>with_reducible rfl) ?_;(·simp (disch:=first|omega|(simp only [go_sem];omega)) only [go_sem,seval,eq_self_iff_true,decide_true,decide_false,not_true_eq_false,not_false_eq_true,hn,hcl,hcl',hX,List.append_assoc,Nat.add_assoc]))|(refine aC_condT ?_ ?_;(·simp (disch:=first|omega|(simp only [go_sem];omega)) only [go_sem,seval,eq_self_iff_true,decide_true,decide_false,not_true_eq_false,not_false_eq_true,hn,hcl,hcl',hX,List.append_assoc,Nat.add_assoc]))|(refine aC_condF ?_ ?_;(·simp (disch:=first|omega|(simp only [go_sem];omega)) only [go_sem,seval,eq_self_iff_true,decide_true,decide_false,not_true_eq_false,not_false_eq_true,hn,hcl,hcl',hX,List.append_assoc,Nat.add_assoc]))|(apply aL_pK cxG (hcut);(iterate 2 (·simp (disch:=first|omega|(simp only [go_sem];omega)) only [go_sem,seval,eq_self_iff_true,decide_true,decide_false,not_true_eq_false,not_false_eq_true,hn,hcl,hcl',hX,List.append_assoc,Nat.add_assoc]<;>with_reducible rfl));(·simp only [go_sem]<;>with_reducible rfl);(·simp))|(apply aL_lookX ((hlk _));(case hg=>(simp (disch:=first|omega|(simp only [go_sem];omega)) only [go_sem,seval,eq_self_iff_true,decide_true,decide_false,not_true_eq_false,not_false_eq_true,hn,hcl,hcl',hX,List.append_assoc,Nat.add_assoc]));(case hm=>(simp (disch:=first|omega|(simp only [go_sem];omega)) only [go_sem,seval,eq_self_iff_true,decide_true,decide_false,not_true_eq_false,not_false_eq_true,hn,hcl,hcl',hX,List.append_assoc,Nat.add_assoc]<;>with_reducible rfl));(case hk=>(simp (disch:=first|omega|(simp only [go_sem];omega)) only [go_sem,seval,eq_self_iff_true,decide_true,decide_false,not_true_eq_false,not_false_eq_true,hn,hcl,hcl',hX,List.append_assoc,Nat.add_assoc]<;>with_reducible rfl));(case hf=>(simp only [go_sem]<;>with_reducible rfl)))|(apply aL_pure cxG (hf);(case hg=>(simp (disch:=first|omega|(simp only [go_sem];omega)) only [go_sem,seval,eq_self_iff_true,decide_true,decide_false,not_true_eq_false,not_false_eq_true,hn,hcl,hcl',hX,List.append_assoc,Nat.add_assoc]));(case hx=>(simp (disch:=first|omega|(simp only [go_sem];omega)) only [go_sem,seval,eq_self_iff_true,decide_true,decide_false,not_true_eq_false,not_false_eq_true,hn,hcl,hcl',hX,List.append_assoc,Nat.add_assoc]<;>with_reducible rfl));(case ha=>(simp (disch:=first|omega|(simp only [go_sem];omega)) only [go_sem,seval,eq_self_iff_true,decide_true,decide_false,not_true_eq_false,not_false_eq_true,hn,hcl,hcl',hX,List.append_assoc,Nat.add_assoc]<;>with_reducible rfl));(case he=>(simp only [go_sem]<;>with_reducible rfl));(case hcl=>(simp));(case hf=>(simp only [go_sem]<;>with_reducible rfl)))|(apply aL_pK cxG (hlast);(iterate 2 (·simp (disch:=first|omega|(simp only [go_sem];omega)) only [go_sem,seval,eq_self_iff_true,decide_true,decide_false,not_true_eq_false,not_false_eq_true,hn,hcl,hcl',hX,List.append_assoc,Nat.add_assoc]<;>with_reducible rfl));(·simp only [go_sem]<;>with_reducible rfl);(·simp))|fail)
  all_goals try refine aC_regB (U:=[(some 50,none)]) rfl [(some 48,n+2),(some 50,n+1)] ?_
  all_goals
   repeat' (first|refine aLB_nil ?_|(apply aLB_step;(·exact True.intro);(·exact (by intro h;cases h));(·rfl);(·simp (disch:=first|omega|(simp only [go_sem];omega)) only [go_sem,seval,hn,hcl',List.append_assoc,Nat.add_assoc]);(·simp (disch:=first|omega|(simp only [go_sem];omega)) only [go_sem,seval,hn,hcl',List.append_assoc,Nat.add_assoc]<;>with_reducible rfl);(·simp only [go_sem]<;>with_reducible rfl);(·(intro b hb;first|(cases hb;done)|(simp (disch:=first|omega|(simp only [go_sem];omega)) only [loadBox,go_sem,seval] at hb;(try injection hb with hb);subst hb;simp))))|(apply aLB_write;(·exact True.intro);(·rfl);(·rfl);(·simp (disch:=first|omega|(simp only [go_sem];omega)) only [go_sem,seval,hn,hcl',List.append_assoc,Nat.add_assoc]);(·simp (disch:=first|omega|(simp only [go_sem];omega)) only [go_sem,seval,hn,hcl',List.append_assoc,Nat.add_assoc]<;>with_reducible rfl);(·simp only [go_sem]<;>with_reducible rfl);(·simp [at1,hn]))|fail)
  all_goals
   repeat' (first|refine aC_ret ?_|refine thenQ_normal ?_|fail)
  all_goals clear hf hcut hlast
  all_goals try (simp (disch:=first|omega|(simp only [go_sem];omega)) only [go_sem,seval,hn,hcl',List.append_assoc,Nat.add_assoc])
  all_goals try simp [zeroC]
  all_goals try omega
 obtain ⟨T,key⟩:=key
 have e:(S++T).take n=S:=by rw [← hn];simp
 have q:=ACall.drop cxG key (n:=n) (by omega) (by split<;>simp [bel,bels,bels_suC]<;>kernel_rfl) (by rw [e];exact hb)
 rwa [e] at q
end
end Go.Am
end
section
namespace Go.Am
open Go Go.Proofs
set_option maxHeartbeats 8000000
set_option maxRecDepth 100000
section
attribute [local irreducible] aC aL thenQ blockQ scopeQ ALoop AWp
theorem take_none (S:St) (i n:Nat) (hS:S[i]? = some (.mp SAY 6)) (hn:S.length=n) (hb:belS n S=true) (hin:i<n) (line:List UInt8) (hline:line.length≤1048576) (s:Su) (nd ne:Bool) (hcl:(suC s nd ne).length=36)
  (hlook:lookV (.str (Lib.cut line [32]).1) SAY zeroSay=zeroSay) (hfind:(findK (.str (Lib.cut line [32]).1) SAY).isSome=false) :
  ACall cx 64 [.agg (suC s nd ne),.str line,.map i] S (.tup [.agg zeroC,.int .i64 5,.bool false]) S:=by
 have hcut:=a_cutB line (by omega)
 have hky:=say_keys (Lib.cut line [32]).1
 have hSR:∀ R:St,(S++R)[i]? = some (.mp SAY 6):=fun R=>by rw [List.getElem?_append_left (by omega)];exact hS
 have hlk:=fun (R:St)=>say_look (S++R) i (hSR R) (Lib.cut line [32]).1 (fun _=>false) fe64.q
 rw [hlook,hfind] at hlk
 clear hlook hfind
 unfold zeroSay at hlk
 generalize (Lib.cut line [32]).1=W at *
 generalize (Lib.cut line [32]).2.2=fl at *
 generalize (Lib.cut line [32]).2.1=R at *
 have key:ACall cx 64 [.agg (suC s nd ne),.str line,.map i] S (.tup [.agg zeroC,.int .i64 5,.bool false]) (S++[.cells zeroC 45,.cells [.int .i64 0,.nilfn] 144]):=by
  refine acall_fnK cxOk Tryz.func64 (fun _=>false) (fe64.q) (by kernel_rfl) (by dsimp only [Tryz.f64,go_sem,seval,liteO,Option.map,List.map];exact .mk _) ?_
  dsimp only [Tryz.f64,frame0,List.zipIdx,List.map,Nat.reduceAdd]
  try simp only [List.getElem?_toArray,List.getElem?_cons_succ,List.getElem?_cons_zero,Option.bind_some]
  repeat' (first|(apply aL_boxI;(case hg=>(simp (disch:=first|omega|(simp only [go_sem];omega)) only [go_sem,seval,eq_self_iff_true,decide_true,decide_false,not_true_eq_false,not_false_eq_true,hn,hcl,List.append_assoc,Nat.add_assoc]));(case h=>(simp (disch:=first|omega|(simp only [go_sem];omega)) only [go_sem,seval,eq_self_iff_true,decide_true,decide_false,not_true_eq_false,not_false_eq_true,hn,hcl,List.append_assoc,Nat.add_assoc]<;>with_reducible rfl));(case hf=>(simp only [go_sem]<;>with_reducible rfl));(case hs=>(simp (disch:=first|omega|(simp only [go_sem];omega)) only [go_sem,seval,eq_self_iff_true,decide_true,decide_false,not_true_eq_false,not_false_eq_true,hn,hcl,List.append_assoc,Nat.add_assoc])))|refine aC_seq ?_|refine aC_reg rfl ?_|refine aC_ret ?_|refine thenQ_normal ?_|refine thenQ_ret ?_|refine aL_nil ?_|(apply aL_step;(·exact True.intro);(iterate 2 (·simp (disch:=first|omega|(simp only [go_sem];omega)) only [go_sem,seval,eq_self_iff_true,decide_true,decide_false,not_true_eq_false,not_false_eq_true,hn,hcl,List.append_assoc,Nat.add_assoc]<;>with_reducible rfl));(·simp only [go_sem]<;>with_reducible rfl))|(refine aC_condT ?_ ?_;(·simp (disch:=first|omega|(simp only [go_sem];omega)) only [go_sem,seval,eq_self_iff_true,decide_true,decide_false,not_true_eq_false,not_false_eq_true,hn,hcl,List.append_assoc,Nat.add_assoc]))|(apply aL_pK cxG (hcut);(iterate 2 (·simp (disch:=first|omega|(simp only [go_sem];omega)) only [go_sem,seval,eq_self_iff_true,decide_true,decide_false,not_true_eq_false,not_false_eq_true,hn,hcl,List.append_assoc,Nat.add_assoc]<;>with_reducible rfl));(·simp only [go_sem]<;>with_reducible rfl);(·simp))|(apply aL_lookX ((hlk _));(case hg=>(simp (disch:=first|omega|(simp only [go_sem];omega)) only [go_sem,seval,eq_self_iff_true,decide_true,decide_false,not_true_eq_false,not_false_eq_true,hn,hcl,List.append_assoc,Nat.add_assoc]));(case hm=>(simp (disch:=first|omega|(simp only [go_sem];omega)) only [go_sem,seval,eq_self_iff_true,decide_true,decide_false,not_true_eq_false,not_false_eq_true,hn,hcl,List.append_assoc,Nat.add_assoc]<;>with_reducible rfl));(case hk=>(simp (disch:=first|omega|(simp only [go_sem];omega)) only [go_sem,seval,eq_self_iff_true,decide_true,decide_false,not_true_eq_false,not_false_eq_true,hn,hcl,List.append_assoc,Nat.add_assoc]<;>with_reducible rfl));(case hf=>(simp only [go_sem]<;>with_reducible rfl)))|fail)
  all_goals clear hcut
  all_goals try (simp (disch:=first|omega|(simp only [go_sem];omega)) only [go_sem,seval,hn,hcl,List.append_assoc,Nat.add_assoc])
  all_goals try simp [zeroC]
  all_goals try exact hky
  all_goals try omega
 have e:(S++[ABox.cells zeroC 45,.cells [.int .i64 0,.nilfn] 144]).take n=S:=by rw [← hn];simp
 have q:=ACall.drop cxG key (n:=n) (by omega) (by kernel_rfl) (by rw [e];exact hb)
 rwa [e] at q
theorem pick_sl {line:List UInt8} {P:Prop} {inst:Decidable P} {x0:Sl} {F:Sl→AVal} {A B r:AVal} (h1:P→IsSl line x0) (h2:∀ x,IsSl line x→P) (hA:P→A=F x0) (hr:(∃ x,IsSl line x∧r=F x)∨((∀ x,¬ IsSl line x)∧r=B)):(@ite _ P inst A B)=r:=by
 by_cases h:P
 ·rw [if_pos h,hA h]
  rcases hr with ⟨x,hx,rfl⟩|⟨k,_⟩
  ·rw [sl_unique (h1 h) hx]
  ·exact absurd (h1 h) (k _)
 ·rw [if_neg h]
  rcases hr with ⟨x,hx,_⟩|⟨_,k⟩
  ·exact absurd (h2 x hx) h
  ·exact k.symm
def tookR (s:Su) (nd ne:Bool) (x:Sl):AVal:=.tup [.agg (suC (x.app s) (x.nd nd) (x.ne ne)),.int .i64 (x.rank:Nat),.bool true]
theorem sl_gran {line:List UInt8} (hw:(Lib.cut line [32]).1=GRAN) {x:Sl} (h:IsSl line x):x = .gran (nOf (Lib.cut line [32]).2.1):=by
 have:=sl_cand h
 unfold candS candW at this
 rw [if_pos hw] at this
 exact (Option.some.inj this).symm
end
end Go.Am
end
section
namespace Go.Am
open Go Go.Proofs
set_option maxHeartbeats 8000000
set_option maxRecDepth 100000
theorem take_gran (S:St) (i n:Nat) (hS:S[i]? = some (.mp SAY 6)) (hn:S.length=n) (hb:belS n S=true) (hin:i<n) (line:List UInt8) (hline:line.length≤100000) (s:Su) (hs:s.m.length=32) (nd ne:Bool) (hw:(Lib.cut line [32]).1=GRAN) (r:AVal)
  (hr:(∃ x,IsSl line x∧r=tookR s nd ne x)∨((∀ x,¬ IsSl line x)∧r = .tup [.agg zeroC,.int .i64 5,.bool false])):ACall cx 64 [.agg (suC s nd ne),.str line,.map i] S r S:=by
 have hR:=cut_len line
 have h:=take_core S i n hS hn hb hin line (by omega) s { s with g:=((min (nOf (Lib.cut line [32]).2.1) 4096:Nat):Int) } nd ne nd ne (suC_len s nd ne hs) (suC_len _ nd ne hs) 0 87 []
  (decide (1≤nOf (Lib.cut line [32]).2.1∧nOf (Lib.cut line [32]).2.1≤4096)) (numT GRAN [min (nOf (Lib.cut line [32]).2.1) 4096]) (.inl rfl) (by rw [hw];rfl) (by rw [hw];rfl)
  (say_gran s hs nd ne _ (by omega)) (fun _=>by rw [hw];exact last_gran s hs nd ne _ (by omega))
 rw [pick_sl (x0:=.gran (nOf (Lib.cut line [32]).2.1)) (F:=tookR s nd ne) ?_ ?_ ?_ hr] at h
 ·exact h
 ·rintro ⟨h1,h2⟩
  have h1:=of_decide_eq_true h1
  exact ⟨h1,by rw [Nat.min_eq_left h1.2] at h2;exact h2⟩
 ·intro x hx
  obtain rfl:=sl_gran hw hx
  have ho:1≤nOf (Lib.cut line [32]).2.1∧nOf (Lib.cut line [32]).2.1≤4096:=hx.1
  exact ⟨decide_eq_true ho,by rw [Nat.min_eq_left ho.2];exact hx.2⟩
 ·rintro ⟨h1,_⟩
  have h1:=of_decide_eq_true h1
  rw [Nat.min_eq_left h1.2]
  rfl
theorem sl_of {line w:List UInt8} (hw:(Lib.cut line [32]).1=w) {x:Sl} (h:IsSl line x):candW w (Lib.cut line [32]).2.1=some x:=by
 have:=sl_cand h
 unfold candS at this
 rw [hw] at this
 exact this
theorem dOr_some {r D:List UInt8} (h:r=hexl D) (hD:D.length=32):(dOf r).isSome=true:=by rw [h,dOf_hex D hD];rfl
theorem dig_rest {w D line:List UInt8} (hw:(32:UInt8) ∉ w) (h:digT w D=line):(Lib.cut line [32]).2.1=hexl D:=by
 rw [← h]
 exact congrArg (·.2.1) (cut_hit w (hexl D) hw)
theorem take_master (S:St) (i n:Nat) (hS:S[i]? = some (.mp SAY 6)) (hn:S.length=n) (hb:belS n S=true) (hin:i<n) (line:List UInt8) (hline:line.length≤100000) (s:Su) (hs:s.m.length=32) (nd ne:Bool) (hw:(Lib.cut line [32]).1=MASTER) (r:AVal)
  (hr:(∃ x,IsSl line x∧r=tookR s nd ne x)∨((∀ x,¬ IsSl line x)∧r = .tup [.agg zeroC,.int .i64 5,.bool false])):ACall cx 64 [.agg (suC s nd ne),.str line,.map i] S r S:=by
 have hR:=cut_len line
 have h:=take_core S i n hS hn hb hin line (by omega) s { s with m:=dOr (Lib.cut line [32]).2.1 } nd ne nd ne (suC_len s nd ne hs) (suC_len _ nd ne (dOr_len _)) 2 88 [.cptr [.fn (.func 84) [] []]]
  (dOf (Lib.cut line [32]).2.1).isSome (digT MASTER (dOr (Lib.cut line [32]).2.1)) (.inr (.inl rfl)) (by rw [hw];rfl) (by rw [hw];rfl)
  (say_master s hs nd ne _ (by omega)) (fun _=>by rw [hw];exact last_master s nd ne _ (dOr_len _))
 rw [pick_sl (x0:=.master (dOr (Lib.cut line [32]).2.1)) (F:=tookR s nd ne) (fun h=>⟨dOr_len _,h.2⟩) ?_ ?_ hr] at h
 ·exact h
 ·intro x hx
  obtain rfl:=Option.some.inj (sl_of hw hx).symm
  exact ⟨dOr_some (dig_rest (by decide) hx.2) (dOr_len _),hx.2⟩
 ·exact fun _=>rfl
theorem take_draw (S:St) (i n:Nat) (hS:S[i]? = some (.mp SAY 6)) (hn:S.length=n) (hb:belS n S=true) (hin:i<n) (line:List UInt8) (hline:line.length≤100000) (s:Su) (hs:s.m.length=32) (nd ne:Bool) (hnd:nd=true→s.d=[]) (hl:s.d.length≤100000) (hw:(Lib.cut line [32]).1=DRAW) (r:AVal)
  (hr:(∃ x,IsSl line x∧r=tookR s nd ne x)∨((∀ x,¬ IsSl line x)∧r = .tup [.agg zeroC,.int .i64 5,.bool false])):ACall cx 64 [.agg (suC s nd ne),.str line,.map i] S r S:=by
 have hR:=cut_len line
 have h:=take_core S i n hS hn hb hin line (by omega) s { s with d:=s.d++[dOr (Lib.cut line [32]).2.1] } nd ne false ne (suC_len s nd ne hs) (suC_len _ false ne hs) 3 89 [.cptr [.fn (.func 84) [] []]]
  (dOf (Lib.cut line [32]).2.1).isSome (digT DRAW (dOr (Lib.cut line [32]).2.1)) (.inr (.inl rfl)) (by rw [hw];rfl) (by rw [hw];rfl)
  (say_draw s hs nd ne hnd hl _ (by omega)) (fun _=>by rw [hw];exact last_draw s hs false ne _ (dOr_len _) hl)
 rw [pick_sl (x0:=.draw (dOr (Lib.cut line [32]).2.1)) (F:=tookR s nd ne) (fun h=>⟨dOr_len _,h.2⟩) ?_ ?_ hr] at h
 ·exact h
 ·intro x hx
  obtain rfl:=Option.some.inj (sl_of hw hx).symm
  exact ⟨dOr_some (dig_rest (by decide) hx.2) (dOr_len _),hx.2⟩
 ·exact fun _=>rfl
theorem take_ent (S:St) (i n:Nat) (hS:S[i]? = some (.mp SAY 6)) (hn:S.length=n) (hb:belS n S=true) (hin:i<n) (line:List UInt8) (hline:line.length≤100000) (s:Su) (hs:s.m.length=32) (nd ne:Bool) (hne:ne=true→s.e=[]) (hl:s.e.length≤100000) (hw:(Lib.cut line [32]).1=ENTR) (r:AVal)
  (hr:(∃ x,IsSl line x∧r=tookR s nd ne x)∨((∀ x,¬ IsSl line x)∧r = .tup [.agg zeroC,.int .i64 5,.bool false])):ACall cx 64 [.agg (suC s nd ne),.str line,.map i] S r S:=by
 have hR:=cut_len line
 have h:=take_core S i n hS hn hb hin line (by omega) s { s with e:=s.e++[nOf (Lib.cut line [32]).2.1] } nd ne nd false (suC_len s nd ne hs) (suC_len _ nd false hs) 4 90 []
  true (entT (nOf (Lib.cut line [32]).2.1)) (.inl rfl) (by rw [hw];rfl) (by rw [hw];rfl)
  (say_ent s hs nd ne hne hl _ (by omega)) (fun _=>by rw [hw];exact last_ent s hs nd false _ (nOf_lt _) hl)
 rw [pick_sl (x0:=.ent (nOf (Lib.cut line [32]).2.1)) (F:=tookR s nd ne) (fun h=>⟨nOf_lt _,h.2⟩) ?_ ?_ hr] at h
 ·exact h
 ·intro x hx
  obtain rfl:=Option.some.inj (sl_of hw hx).symm
  exact ⟨rfl,hx.2⟩
 ·exact fun _=>rfl
end Go.Am
end
section
namespace Go.Am
open Go Go.Proofs
set_option maxHeartbeats 8000000
set_option maxRecDepth 100000
theorem take_mode (S:St) (i n:Nat) (hS:S[i]? = some (.mp SAY 6)) (hn:S.length=n) (hb:belS n S=true) (hin:i<n) (line:List UInt8) (hline:line.length≤100000) (s:Su) (hs:s.m.length=32) (nd ne b:Bool) (hw:(Lib.cut line [32]).1=modeT b) (r:AVal)
  (hr:(∃ x,IsSl line x∧r=tookR s nd ne x)∨((∀ x,¬ IsSl line x)∧r = .tup [.agg zeroC,.int .i64 5,.bool false])):ACall cx 64 [.agg (suC s nd ne),.str line,.map i] S r S:=by
 have h:=take_core S i n hS hn hb hin line (by omega) s { s with i:=b } nd ne nd ne (suC_len s nd ne hs) (suC_len _ nd ne hs) 1 86 [.cptr [.bool b]]
  (decide ((Lib.cut line [32]).2.1=[])) (modeT b) (.inr (.inr ⟨b,rfl⟩)) (by rw [hw];cases b<;>rfl) (by rw [hw];cases b<;>rfl)
  (say_mode s hs nd ne b _) (fun _=>by rw [hw];exact last_mode { s with i:=b } hs nd ne b)
 rw [pick_sl (x0:=.mode b) (F:=tookR s nd ne) (fun h=>⟨trivial,h.2⟩) ?_ ?_ hr] at h
 ·exact h
 ·intro x hx
  have hc:=sl_of hw hx
  have:candW (modeT b) (Lib.cut line [32]).2.1=some (.mode b):=by cases b<;>rfl
  rw [this] at hc
  obtain rfl:=Option.some.inj hc
  refine ⟨decide_eq_true ?_,hx.2⟩
  rw [sl_cut hx]
 ·exact fun _=>rfl
theorem look_none (w:List UInt8) (h:w≠GRAN∧w≠modeT true∧w≠modeT false∧w≠MASTER∧w≠DRAW∧w≠ENTR):lookV (.str w) SAY zeroSay=zeroSay∧(findK (.str w) SAY).isSome=false:=by
 obtain ⟨h1,h2,h3,h4,h5,h6⟩:=h
 have e:findK (.str w) SAY=none:=by
  have k:∀ x:List UInt8,w≠x→aeqs (AVal.str w).cells (AVal.str x).cells=false:=fun x hx=>by
   simp [AVal.cells,aeqs,aeq,hx]
  unfold findK
  rw [List.findIdx?_eq_none_iff]
  intro x hx
  simp only [SAY,sayE,List.mem_cons,List.not_mem_nil,or_false] at hx
  rcases hx with rfl|rfl|rfl|rfl|rfl|rfl
  ·exact k _ h1
  ·exact k _ h2
  ·exact k _ h3
  ·exact k _ h4
  ·exact k _ h5
  ·exact k _ h6
 refine ⟨?_,by rw [e];rfl⟩
 unfold lookV
 rw [e]
theorem script_take (S:St) (i n:Nat) (hS:S[i]? = some (.mp SAY 6)) (hn:S.length=n) (hb:belS n S=true) (hin:i<n) (line:List UInt8) (hline:line.length≤100000) (s:Su) (hs:s.m.length=32) (nd ne:Bool) (hnd:nd=true→s.d=[]) (hne:ne=true→s.e=[]) (hld:s.d.length≤100000) (hle:s.e.length≤100000) (r:AVal)
  (hr:(∃ x,IsSl line x∧r=tookR s nd ne x)∨((∀ x,¬ IsSl line x)∧r = .tup [.agg zeroC,.int .i64 5,.bool false])):ACall cx 64 [.agg (suC s nd ne),.str line,.map i] S r S:=by
 by_cases h1:(Lib.cut line [32]).1=GRAN
 ·exact take_gran S i n hS hn hb hin line hline s hs nd ne h1 r hr
 by_cases h2:(Lib.cut line [32]).1=modeT true
 ·exact take_mode S i n hS hn hb hin line hline s hs nd ne true h2 r hr
 by_cases h3:(Lib.cut line [32]).1=modeT false
 ·exact take_mode S i n hS hn hb hin line hline s hs nd ne false h3 r hr
 by_cases h4:(Lib.cut line [32]).1=MASTER
 ·exact take_master S i n hS hn hb hin line hline s hs nd ne h4 r hr
 by_cases h5:(Lib.cut line [32]).1=DRAW
 ·exact take_draw S i n hS hn hb hin line hline s hs nd ne hnd hld h5 r hr
 by_cases h6:(Lib.cut line [32]).1=ENTR
 ·exact take_ent S i n hS hn hb hin line hline s hs nd ne hne hle h6 r hr
 have hl:=look_none _ ⟨h1,h2,h3,h4,h5,h6⟩
 have hno:∀ x,¬ IsSl line x:=fun x hx=>by
  have:=sl_cand hx
  unfold candS candW at this
  rw [if_neg h1,if_neg h2,if_neg h3,if_neg h4,if_neg h5,if_neg h6] at this
  cases this
 rcases hr with ⟨x,hx,_⟩|⟨_,rfl⟩
 ·exact absurd hx (hno x)
 ·exact take_none S i n hS hn hb hin line (by omega) s nd ne (suC_len s nd ne hs) hl.1 hl.2
end Go.Am
end
section
namespace Go.Am
open Go Go.Proofs
set_option maxHeartbeats 8000000
set_option maxRecDepth 100000
attribute [go_sem] List.drop_succ_cons List.drop_zero List.headD_cons List.set_cons_succ List.set_cons_zero
open Classical in
noncomputable def slOf (l:List UInt8):Option Sl:=if h:∃ x,IsSl l x then some h.choose else none
open Classical in
noncomputable def stOf (l:List UInt8):Option Sp:=if h:∃ x,IsStep l x then some h.choose else none
theorem slOf_cases (l:List UInt8):(∃ x,IsSl l x∧slOf l=some x)∨((∀ x,¬ IsSl l x)∧slOf l=none):=by
 by_cases h:∃ x,IsSl l x
 ·exact .inl ⟨h.choose,h.choose_spec,dif_pos h⟩
 ·exact .inr ⟨fun x hx=>h ⟨x,hx⟩,dif_neg h⟩
theorem stOf_cases (l:List UInt8):(∃ x,IsStep l x∧stOf l=some x)∨((∀ x,¬ IsStep l x)∧stOf l=none):=by
 by_cases h:∃ x,IsStep l x
 ·exact .inl ⟨h.choose,h.choose_spec,dif_pos h⟩
 ·exact .inr ⟨fun x hx=>h ⟨x,hx⟩,dif_neg h⟩
theorem slOf_is {l:List UInt8} {x:Sl} (h:IsSl l x):slOf l=some x:=by
 rcases slOf_cases l with ⟨y,hy,e⟩|⟨k,_⟩
 ·rw [e,sl_unique hy h]
 ·exact absurd h (k x)
theorem slOf_no {l:List UInt8} (h:∀ x,¬ IsSl l x):slOf l=none:=by
 rcases slOf_cases l with ⟨y,hy,e⟩|⟨_,e⟩
 ·exact absurd hy (h y)
 ·exact e
structure Ps where
 s:Su
 l:List Sp
 rank:Nat
def p0:Ps:=⟨⟨0,false,List.replicate 32 0,[],[]⟩,[],0⟩
def Bad (n r k:Nat):Prop:=(n<3∧k≠n)∨(3≤n∧k<max 3 r)
instance (n r k:Nat):Decidable (Bad n r k):=by unfold Bad;infer_instance
def stepW (n:Nat) (p:Ps) (a:Option Sl) (b:Option Sp):Option Ps :=
 match a with
 |some y=>if Bad n p.rank y.rank then none else if (y.app p.s).d.length≤4096∧(y.app p.s).e.length≤4096 then some ⟨y.app p.s,p.l,y.rank⟩ else none
 |none=>if n<3 then none else match b with
  |some st=>if p.l.length<65536 then some ⟨p.s,p.l++[st],5⟩ else none
  |none=>none
noncomputable def stepP (n:Nat) (p:Ps) (x:List UInt8):Option Ps:=stepW n p (slOf x) (stOf x)
noncomputable def preP (L:List (List UInt8)):Nat→Option Ps
 |0=>some p0
 |k+1=>(preP L k).bind fun p=>stepP k p (L.getD k [])
structure Ps.Ok (p:Ps):Prop where
 su:p.s.Ok
 r5:p.rank≤5
 d4:p.s.d.length≤4096
 e4:p.s.e.length≤4096
 l6:p.l.length≤65536
 st:∀ x∈p.l,MayS x∧x.Ok
theorem Sl.rank_le (y:Sl):y.rank≤4:=by cases y<;>simp [Sl.rank]
theorem app_ok {y:Sl} (h:y.Ok) {s:Su} (k:s.Ok):(y.app s).Ok:=by
 cases y with
 |gran n=>exact ⟨k.m32,k.d32,k.ew⟩
 |mode b=>exact ⟨k.m32,k.d32,k.ew⟩
 |master m=>exact ⟨h,k.d32,k.ew⟩
 |draw m=>exact ⟨k.m32,fun x hx=>by
   rcases List.mem_append.1 hx with g|g
   ·exact k.d32 x g
   ·rw [List.mem_singleton.1 g];exact h,k.ew⟩
 |ent n=>exact ⟨k.m32,k.d32,fun x hx=>by
   rcases List.mem_append.1 hx with g|g
   ·exact k.ew x g
   ·rw [List.mem_singleton.1 g];exact h⟩
theorem p0_ok:p0.Ok:=⟨⟨by simp [p0],by simp [p0],by simp [p0]⟩,by simp [p0],by simp [p0],by simp [p0],by simp [p0],by simp [p0]⟩
theorem stepP_ok {n:Nat} {p p':Ps} {x:List UInt8} (hp:p.Ok) (h:stepP n p x=some p'):p'.Ok∧p'.l.length≤p.l.length+1:=by
 unfold stepP at h
 rcases slOf_cases x with ⟨y,hy,e⟩|⟨hn,e⟩
 ·rw [e] at h
  simp only [stepW] at h
  split at h
  ·cases h
  ·split at h
   case isTrue hle =>
    obtain rfl:=Option.some.inj h
    exact ⟨⟨app_ok hy.1 hp.su,by have:=y.rank_le;show y.rank≤5;omega,hle.1,hle.2,hp.l6,hp.st⟩,Nat.le_succ _⟩
   ·cases h
 ·rw [e] at h
  simp only [stepW] at h
  split at h
  ·cases h
  ·rcases stOf_cases x with ⟨st,hst,e2⟩|⟨_,e2⟩
   ·rw [e2] at h
    simp only at h
    split at h
    case isTrue hl =>
     obtain rfl:=Option.some.inj h
     refine ⟨⟨hp.su,Nat.le_refl _,hp.d4,hp.e4,by simp;omega,fun z hz=>?_⟩,by simp⟩
     rcases List.mem_append.1 hz with g|g
     ·exact hp.st z g
     ·rw [List.mem_singleton.1 g];exact ⟨hst.1,hst.2.1⟩
    ·cases h
   ·rw [e2] at h;cases h
theorem preP_ok {L:List (List UInt8)}:∀ {k:Nat} {p:Ps},preP L k=some p→p.Ok∧p.l.length≤k
 |0,p,h=>by obtain rfl:=Option.some.inj h;exact ⟨p0_ok,by simp [p0]⟩
 |k+1,p,h=>by
  unfold preP at h
  cases hq:preP L k with
  |none=>rw [hq] at h;cases h
  |some q =>
   rw [hq] at h
   obtain ⟨h1,h2⟩:=preP_ok hq
   obtain ⟨h3,h4⟩:=stepP_ok h1 h
   exact ⟨h3,by omega⟩
theorem preP_succ {L:List (List UInt8)} {k:Nat} {p:Ps} (h:preP L k=some p) (hk:k<L.length):preP L (k+1)=stepP k p L[k]:=by
 show (preP L k).bind _=_
 rw [h]
 simp [List.getD,hk]
noncomputable def badAt (L:List (List UInt8)):Nat→Option Nat
 |0=>none
 |k+1=>match badAt L k with
  |some n=>some n
  |none=>if (preP L (k+1)).isSome then none else some k
theorem badAt_ok (L:List (List UInt8)):∀ k,(badAt L k=none∧(preP L k).isSome=true)∨(∃ n,badAt L k=some n∧n<k∧(preP L n).isSome=true∧preP L (n+1)=none∧∀ j,n<j→preP L j=none)
 |0=>.inl ⟨rfl,rfl⟩
 |k+1=>by
  rcases badAt_ok L k with ⟨h1,h2⟩|⟨n,h1,h2,h3,h4,h5⟩
  ·by_cases h:(preP L (k+1)).isSome=true
   ·exact .inl ⟨by simp [badAt,h1,h],h⟩
   ·have hz:preP L (k+1)=none:=by simpa using h
    refine .inr ⟨k,by simp [badAt,h1,hz],by omega,h2,hz,fun j hj=>?_⟩
    induction j with
    |zero=>omega
    |succ j ih =>
     by_cases e:j=k
     ·rw [e];exact hz
     ·have:=ih (by omega)
      show (preP L j).bind _=none
      rw [this];rfl
  ·exact .inr ⟨n,by simp [badAt,h1],by omega,h3,h4,h5⟩
def stl (l:List Sp):List (Sp × Bool):=l.map fun st=>(st,st.b.isEmpty)
theorem length_stl (l:List Sp):(stl l).length=l.length:=by simp [stl]
theorem stl_snoc (l:List Sp) (x:Sp):stl (l++[x])=stl l++[(x,x.b.isEmpty)]:=by simp [stl]
theorem sts_snoc (l:List (Sp × Bool)) (x:Sp × Bool):sts (l++[x])=sts l++[.agg (spC x.1 x.2 .any)]:=by simp [sts]
def psC (p:Ps):List AVal:=scC p.s p.s.d.isEmpty p.s.e.isEmpty (stl p.l) p.l.isEmpty
def psR (n:Nat) (e:Int) (c:List AVal):AVal:=.tup [.agg c,.int .i64 n,.int .i64 e]
noncomputable def parR (L:List (List UInt8)) (rest:List UInt8):AVal :=
 match badAt L L.length with
 |some n=>psR n 4 (psC p0)
 |none=>if rest≠[]∨L.length<3 then psR L.length 4 (psC p0) else psR 0 0 (psC ((preP L L.length).getD p0))
theorem parR_bad {L:List (List UInt8)} {rest:List UInt8} {k:Nat} {p:Ps} (hk:k<L.length) (h:preP L k=some p) (hn:stepP k p L[k]=none):parR L rest=psR k 4 (psC p0):=by
 have hz:=preP_succ h hk
 rw [hn] at hz
 unfold parR
 rcases badAt_ok L L.length with ⟨h1,h2⟩|⟨n,h1,h2,h3,h4,h5⟩
 ·have:∀ j,k+1≤j→preP L j=none:=fun j hj=>by
   induction j with
   |zero=>omega
   |succ j ih =>
    by_cases e:j=k
    ·rw [e];exact hz
    ·show (preP L j).bind _=none
     rw [ih (by omega)];rfl
  rw [this L.length (by omega)] at h2
  cases h2
 ·have:n=k:=by
   rcases Nat.lt_trichotomy n k with g|g|g
   ·rw [h5 k g] at h;cases h
   ·exact g
   ·have:∀ j,k+1≤j→preP L j=none:=fun j hj=>by
     induction j with
     |zero=>omega
     |succ j ih =>
      by_cases e:j=k
      ·rw [e];exact hz
      ·show (preP L j).bind _=none
       rw [ih (by omega)];rfl
    rw [this n (by omega)] at h3;cases h3
  rw [h1,this]
theorem parR_end {L:List (List UInt8)} {rest:List UInt8} {p:Ps} (h:preP L L.length=some p) (hn:rest≠[]∨L.length<3):parR L rest=psR L.length 4 (psC p0):=by
 unfold parR
 rcases badAt_ok L L.length with ⟨h1,h2⟩|⟨n,h1,h2,h3,h4,h5⟩
 ·rw [h1];simp only;rw [if_pos hn]
 ·rw [h5 _ h2] at h;cases h
theorem parR_ok {L:List (List UInt8)} {p:Ps} (h:preP L L.length=some p) (hn:3≤L.length):parR L []=psR 0 0 (psC p):=by
 unfold parR
 rcases badAt_ok L L.length with ⟨h1,h2⟩|⟨n,h1,h2,h3,h4,h5⟩
 ·rw [h1];simp only;rw [if_neg (by simp;omega),h];rfl
 ·rw [h5 _ h2] at h;cases h
end Go.Am
end
