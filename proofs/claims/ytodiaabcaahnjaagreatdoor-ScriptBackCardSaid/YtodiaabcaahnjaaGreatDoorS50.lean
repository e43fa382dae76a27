/- The law ScriptBack. -/
import Derived.Test.YtodiaabcaahnjaaGreatDoorS46
import Derived.Test.YtodiaabcaahnjaaGreatDoorS23
set_option linter.unusedVariables false
set_option linter.unusedSimpArgs false
section
namespace Go.Am
open Go Go.Proofs
set_option maxHeartbeats 8000000
set_option maxRecDepth 100000
section
attribute [local irreducible] aC aL thenQ blockQ scopeQ ALoop AWp
theorem scC_suC (s:Su) (nd ne:Bool) (l:List (Sp × Bool)) (ns:Bool):scC s nd ne l ns=suC s nd ne++[.sl 11 ns (sts l) .any]:=by
 unfold scC suC
 simp
theorem length_scC {s:Su} (h:s.m.length=32) (nd ne:Bool) (l:List (Sp × Bool)) (ns:Bool):(scC s nd ne l ns).length=37:=by simp [scC,h]
theorem take36 {s:Su} (h:s.m.length=32) (nd ne:Bool) (l:List (Sp × Bool)) (ns:Bool):(scC s nd ne l ns).take 36=suC s nd ne:=by
 rw [scC_suC,List.take_append_of_le_length (by rw [suC_len _ _ _ h];omega),List.take_of_length_le (by rw [suC_len _ _ _ h];omega)]
theorem one_scCi (s:Su) (nd ne:Bool) (l:List (Sp × Bool)) (ns:Bool):(∀ x∈scC s nd ne l ns,x.one=true)↔True:=⟨fun _=>trivial,fun _=>one_scC' _ _ _ _ _⟩
theorem bels_scC (n:Nat) (s:Su) (nd ne:Bool) (l:List (Sp × Bool)) (ns:Bool):bels n (scC s nd ne l ns)=true:=by
 rw [scC_suC]
 simp [bels_append',bels_suC,bels,bel,bels_sts,belT]
theorem take37 {s:Su} (h:s.m.length=32) (nd ne:Bool) (l:List (Sp × Bool)) (ns:Bool):(scC s nd ne l ns).take 37=scC s nd ne l ns:=List.take_of_length_le (by rw [length_scC h];omega)
theorem put37 {s:Su} (h:s.m.length=32) (nd ne:Bool) (l:List (Sp × Bool)) (ns:Bool):putCells (.int .i64 0 :: .bool false::(bl [0,0,0,0,0,0,0,0,0,0,0,0,0,0,0,0,0,0,0,0,0,0,0,0,0,0,0,0,0,0,0,0]++[.sl 1 true [] .any,.sl 1 true [] .any,.sl 1 true [] .any])) 0 (scC s nd ne l ns)=scC s nd ne l ns:=putCells_all (by rw [length_scC h];rfl)
theorem length_suC {s:Su} (h:s.m.length=32) (nd ne:Bool):(suC s nd ne).length=36:=suC_len s nd ne h
theorem take36s {s:Su} (h:s.m.length=32) (nd ne:Bool):(suC s nd ne).take 36=suC s nd ne:=List.take_of_length_le (by rw [length_suC h];omega)
theorem put36 {s:Su} (h:s.m.length=32) (nd ne:Bool):putCells (.int .i64 0 :: .bool false::(bl [0,0,0,0,0,0,0,0,0,0,0,0,0,0,0,0,0,0,0,0,0,0,0,0,0,0,0,0,0,0,0,0]++[.sl 1 true [] .any,.sl 1 true [] .any])) 0 (suC s nd ne)=suC s nd ne:=putCells_all (by rw [length_suC h];rfl)
theorem put36s {s s':Su} (h:s.m.length=32) (h':s'.m.length=32) (nd ne nd' ne':Bool):putCells (suC s nd ne) 0 (suC s' nd' ne')=suC s' nd' ne':=putCells_all (by rw [length_suC h,length_suC h'])
attribute [go_sem] length_scC take36 take37 one_scCi put37 length_suC take36s put36 put36s
theorem su0_lit:suC p0.s true true=(.int .i64 0 :: .bool false::(bl [0,0,0,0,0,0,0,0,0,0,0,0,0,0,0,0,0,0,0,0,0,0,0,0,0,0,0,0,0,0,0,0]++[.sl 32 true [] .any,.sl 1 true [] .any]):List AVal):=rfl
theorem stp_stl (l:List (Sp × Bool)):stp (stl (l.map (·.1)))=stp l:=by
 unfold stp stl
 simp [Function.comp_def]
theorem ctx_no10 {op:Int} {xs:List Nat} (hm:MayC op xs):(10:UInt8) ∉ ctx op xs:=by
 unfold ctx ctxK
 intro h
 rcases List.mem_append.1 h with h|h
 ·exact (cnm_in hm.1).2.2.2 h
 ·obtain ⟨x,_,hx⟩:=List.mem_flatMap.1 h
  rcases List.mem_cons.1 hx with hx|hx
  ·exact absurd hx (by decide)
  ·exact dec_no x 10 (.inl (by decide)) hx
theorem dec_no10 (n:Nat):(10:UInt8) ∉ Lib.decDigits n:=dec_no n 10 (.inl (by decide))
theorem hex_no10:∀ m:List UInt8,(10:UInt8) ∉ hexl m
 |[]=>by simp [hexl]
 |b::m=>by
  have hb:=b.toNat_lt
  have hall:((List.range 16).all fun k=>decide (hexd k≠10))=true:=by decide +kernel
  have hd:∀ k,k<16→hexd k≠10:=fun k hk=>of_decide_eq_true (List.all_eq_true.1 hall k (List.mem_range.2 hk))
  simp only [hexl,List.mem_cons,not_or]
  exact ⟨Ne.symm (hd _ (by omega)),Ne.symm (hd _ (by omega)),hex_no10 m⟩
theorem numT_no10 (w:List UInt8) (hw:(10:UInt8) ∉ w) (l:List Nat):(10:UInt8) ∉ numT w l:=by
 unfold numT
 intro h
 rcases List.mem_append.1 h with h|h
 ·exact hw h
 ·obtain ⟨n,_,h⟩:=List.mem_flatMap.1 h
  rcases List.mem_cons.1 h with h|h
  ·exact absurd h (by decide)
  ·exact dec_no10 n h
theorem digT_no10 (w m:List UInt8) (hw:(10:UInt8) ∉ w):(10:UInt8) ∉ digT w m:=by
 unfold digT
 intro h
 rcases List.mem_append.1 h with h|h
 ·exact hw h
 ·rcases List.mem_cons.1 h with h|h
  ·exact absurd h (by decide)
  ·exact hex_no10 m h
theorem sl_no10 (y:Sl):(10:UInt8) ∉ y.text:=by
 cases y with
 |gran n=>exact numT_no10 _ (by decide) _
 |mode b=>cases b<;>decide
 |master m=>exact digT_no10 _ _ (by decide)
 |draw m=>exact digT_no10 _ _ (by decide)
 |ent n=>exact numT_no10 _ (by decide) _
theorem step_no10 {st:Sp} (h:MayS st):(10:UInt8) ∉ lineS st:=by
 obtain ⟨k,op,xs,a,w,b⟩:=st
 rcases h with ⟨hk,hc,_⟩|⟨_,h⟩
 ·simp only at hk hc
  subst hk
  rw [show lineS ⟨1,op,xs,a,w,b⟩=ctx op xs by simp [lineS]]
  exact ctx_no10 hc
 ·simp only at h
  rcases h with ⟨rfl,_⟩|⟨rfl,_⟩|⟨rfl,_⟩
  ·rw [show lineS ⟨2,op,xs,a,w,b⟩=numT LOAD [a] by simp [lineS,LOAD]]
   exact numT_no10 _ (by decide) _
  ·rw [show lineS ⟨3,op,xs,a,w,b⟩=numT STORE [a,w] by simp [lineS,STORE]]
   exact numT_no10 _ (by decide) _
  ·by_cases hb:b=[]
   ·subst hb
    rw [show lineS ⟨4,op,xs,a,w,[]⟩=VERIFY by simp [lineS]]
    decide
   ·rw [show lineS ⟨4,op,xs,a,w,b⟩=digT VERIFY b by simp [lineS,hb,digT]]
    exact digT_no10 _ _ (by decide)
theorem back_x6 (s:Su) (l:List (Sp × Bool)) (h:ScW s l) (hm:¬ MuchS s l):∀ p∈stl (l.map (·.1)),p.1.xs.length=6∧p.1.b.length≤1048576:=fun p hp=>by
 obtain ⟨k1,k2,_⟩:=h.okS hm
 obtain ⟨st,hst,rfl⟩:=List.mem_map.1 hp
 obtain ⟨q,hq,rfl⟩:=List.mem_map.1 hst
 exact ⟨(k1 q hq).x6,by have:=k2 q hq;simp only;omega⟩
theorem back_parse (s:Su) (l:List (Sp × Bool)) (h:ScW s l) (hmu:¬ MuchS s l) (hmay:MaySu s∧∀ p∈l,MayS p.1) (r:Nat) (hrun:runP 0 p0 (linesL s++(l.map (·.1)).map lineS)=some ⟨s,l.map (·.1),r⟩) :
  APure cx 13 [.str (scT s l)] (psR 0 0 (psC ⟨s,l.map (·.1),r⟩)):=by
 obtain ⟨k1,k2,k3,k4,k5⟩:=h.okS hmu
 have hsm:=scT_small s l h hmu hmay.1
 have hj:scT s l=jn (linesL s++(l.map (·.1)).map lineS) []:=by
  unfold scT
  rw [← txt_app,txt_jn]
  simp [Function.comp_def]
 have hL:∀ x∈linesL s++(l.map (·.1)).map lineS,x.length≤100000∧(10:UInt8) ∉ x:=fun x hx=>by
  rcases List.mem_append.1 hx with hx|hx
  ·exact ⟨by have:=linesL_len s h.ok hmay.1 x hx;omega,by
    rw [← sls_text] at hx
    obtain ⟨y,hy,rfl⟩:=List.mem_map.1 hx
    exact sl_no10 y⟩
  ·obtain ⟨st,hst,rfl⟩:=List.mem_map.1 hx
   obtain ⟨q,hq,rfl⟩:=List.mem_map.1 hst
   exact ⟨by have:=lineS_len q.1 (k1 q hq) (by have:=k2 q hq;omega);omega,step_no10 (hmay.2 q hq)⟩
 have hp:=preP_all (linesL s++(l.map (·.1)).map lineS)
 rw [hrun] at hp
 have h3:3≤(linesL s++(l.map (·.1)).map lineS).length:=by
  rw [List.length_append,show (linesL s).length=3+s.d.length+s.e.length from linesA_len s _ _ (Nat.le_refl _) (Nat.le_refl _)];omega
 have:=script_Parse (scT s l) (linesL s++(l.map (·.1)).map lineS) [] (by omega) (fun x hx=>(hL x hx).1) (fun x hx=>(hL x hx).2) (by simp) hj
 rwa [parR_ok hp h3] at this
theorem law_back_B (s:Su) (nd ne ns:Bool) (l:List (Sp × Bool)) (h:ScW s l) (text:List UInt8) (ht:20000<text.length) (ht2:text.length≤9223372036854775807) :
  APure cx 7 [.agg (scC s nd ne l ns),.str text] (.bool true):=by
 have hk:=script_known
 have q0:=law_num25 0
 have q2:=law_num25 2
 have q4:=law_num25 4
 have hm:=h.ok.m32
 have hMu:=ref_Much s hm nd ne ns l (fun p hp=>(h.st p hp).x6) h.len
 by_cases hmu:MuchS s l
 case pos =>
  rw [decide_eq_true hmu] at hMu
  clear hmu h
  refine pure_fnK cxOk Tryz.func7 (fun _=>false) (fe7.q) (by kernel_rfl) (by dsimp only [Tryz.f7,go_sem,seval,liteO,Option.map,List.map];exact .mk _) ?_
  dsimp only [Tryz.f7,frame0,List.zipIdx,List.map,Nat.reduceAdd]
  try simp only [List.getElem?_toArray,List.getElem?_cons_succ,List.getElem?_cons_zero,Option.bind_some]
  repeat' (first|(apply aL_boxI;(case hg=>(simp (disch:=omega) only [go_sem,seval,hm,decide_true,decide_false,not_false_eq_true,not_true_eq_false]));(case h=>(simp (disch:=omega) only [go_sem,seval,hm,decide_true,decide_false,not_false_eq_true,not_true_eq_false]<;>with_reducible rfl));(case hf=>(simp only [go_sem]<;>with_reducible rfl));(case hs=>(simp (disch:=omega) only [go_sem,seval,hm,decide_true,decide_false,not_false_eq_true,not_true_eq_false])))|refine aC_seq ?_|refine aC_reg rfl ?_|refine aC_skip ?_|refine aC_ret ?_|refine thenQ_normal ?_|refine thenQ_ret ?_|refine aL_nil ?_|(apply aL_step;(·exact True.intro);(iterate 2 (·simp (disch:=omega) only [go_sem,seval,hm,decide_true,decide_false,not_false_eq_true,not_true_eq_false]<;>with_reducible rfl));(·simp only [go_sem]<;>with_reducible rfl))|(refine aC_condT ?_ ?_;(·simp (disch:=omega) only [go_sem,seval,hm,decide_true,decide_false,not_false_eq_true,not_true_eq_false]))|(refine aC_condF ?_ ?_;(·simp (disch:=omega) only [go_sem,seval,hm,decide_true,decide_false,not_false_eq_true,not_true_eq_false]))|(refine aC_condP (by simp (disch:=omega) only [go_sem,seval,hm,decide_true,decide_false,not_false_eq_true,not_true_eq_false]<;>with_reducible rfl) ?_ ?_<;>(intro h;first|(exfalso;omega)|skip))|(apply aL_pK cxG (hk);(iterate 2 (·simp (disch:=omega) only [go_sem,seval,hm,decide_true,decide_false,not_false_eq_true,not_true_eq_false]<;>with_reducible rfl));(·simp only [go_sem]<;>with_reducible rfl);(·simp))|(apply aL_pK cxG (hMu);(iterate 2 (·simp (disch:=omega) only [go_sem,seval,hm,decide_true,decide_false,not_false_eq_true,not_true_eq_false]<;>with_reducible rfl));(·simp only [go_sem]<;>with_reducible rfl);(·simp))|fail)
  all_goals try (first|exact True.intro|exact not_false|omega|(simp (disch:=omega) only [go_sem,seval]<;>omega))
  all_goals clear hk hMu q0 q2 q4
  all_goals try (simp (disch:=omega) only [go_sem,seval])
  all_goals try simp
 case neg =>
  rw [decide_eq_false hmu] at hMu
  obtain ⟨k1,k2,k3,k4,k5⟩:=h.okS hmu
  by_cases hmay:MaySu s∧∀ p∈l,MayS p.1
  case neg =>
   have hT:=script_Text_no s h.ok nd ne ns l (fun p hp=>(h.st p hp).x6) (by omega) hmay
   clear hmay hmu h k1 k2
   refine pure_fnK cxOk Tryz.func7 (fun _=>false) (fe7.q) (by kernel_rfl) (by dsimp only [Tryz.f7,go_sem,seval,liteO,Option.map,List.map];exact .mk _) ?_
   dsimp only [Tryz.f7,frame0,List.zipIdx,List.map,Nat.reduceAdd]
   try simp only [List.getElem?_toArray,List.getElem?_cons_succ,List.getElem?_cons_zero,Option.bind_some]
   repeat' (first|(apply aL_boxI;(case hg=>(simp (disch:=omega) only [go_sem,seval,hm,decide_true,decide_false,not_false_eq_true,not_true_eq_false]));(case h=>(simp (disch:=omega) only [go_sem,seval,hm,decide_true,decide_false,not_false_eq_true,not_true_eq_false]<;>with_reducible rfl));(case hf=>(simp only [go_sem]<;>with_reducible rfl));(case hs=>(simp (disch:=omega) only [go_sem,seval,hm,decide_true,decide_false,not_false_eq_true,not_true_eq_false])))|refine aC_seq ?_|refine aC_reg rfl ?_|refine aC_skip ?_|refine aC_ret ?_|refine thenQ_normal ?_|refine thenQ_ret ?_|refine aL_nil ?_|(apply aL_step;(·exact True.intro);(iterate 2 (·simp (disch:=omega) only [go_sem,seval,hm,decide_true,decide_false,not_false_eq_true,not_true_eq_false]<;>with_reducible rfl));(·simp only [go_sem]<;>with_reducible rfl))|(refine aC_condT ?_ ?_;(·simp (disch:=omega) only [go_sem,seval,hm,decide_true,decide_false,not_false_eq_true,not_true_eq_false]))|(refine aC_condF ?_ ?_;(·simp (disch:=omega) only [go_sem,seval,hm,decide_true,decide_false,not_false_eq_true,not_true_eq_false]))|(refine aC_condP (by simp (disch:=omega) only [go_sem,seval,hm,decide_true,decide_false,not_false_eq_true,not_true_eq_false]<;>with_reducible rfl) ?_ ?_<;>(intro h;first|(exfalso;omega)|skip))|(apply aL_pK cxG (hk);(iterate 2 (·simp (disch:=omega) only [go_sem,seval,hm,decide_true,decide_false,not_false_eq_true,not_true_eq_false]<;>with_reducible rfl));(·simp only [go_sem]<;>with_reducible rfl);(·simp))|(apply aL_pK cxG (hMu);(iterate 2 (·simp (disch:=omega) only [go_sem,seval,hm,decide_true,decide_false,not_false_eq_true,not_true_eq_false]<;>with_reducible rfl));(·simp only [go_sem]<;>with_reducible rfl);(·simp))|(apply aL_pK cxG (hT);(iterate 2 (·simp (disch:=omega) only [go_sem,seval,hm,decide_true,decide_false,not_false_eq_true,not_true_eq_false]<;>with_reducible rfl));(·simp only [go_sem]<;>with_reducible rfl);(·simp))|(apply aL_pK cxG (q2);(iterate 2 (·simp (disch:=omega) only [go_sem,seval,hm,decide_true,decide_false,not_false_eq_true,not_true_eq_false]<;>with_reducible rfl));(·simp only [go_sem]<;>with_reducible rfl);(·simp))|fail)
   all_goals try (first|exact True.intro|exact not_false|omega|(simp (disch:=omega) only [go_sem,seval]<;>omega))
   all_goals clear hk hMu hT q0 q2 q4
   all_goals try (simp (disch:=omega) only [go_sem,seval])
   all_goals try simp
  case pos =>
   have hsm:=scT_small s l h hmu hmay.1
   have hT:=script_Text_ok s h.ok nd ne ns l k1 (by omega) hmay.1 hmay.2
   rw [if_neg (by omega)] at hT
   obtain ⟨r,hrun⟩:=run_script s h.ok hmay.1 (l.map (·.1)) (fun x hx=>by
    obtain ⟨p,hp,rfl⟩:=List.mem_map.1 hx
    exact ⟨hmay.2 p hp,k1 p hp⟩) (by rw [List.length_map];omega)
   have hj:scT s l=jn (linesL s++(l.map (·.1)).map lineS) []:=by
    unfold scT
    rw [← txt_app,txt_jn]
    simp [Function.comp_def]
   have hP:=back_parse s l h hmu hmay r hrun
   have s1:=ref_Same s s h.ok h.ok s.d.isEmpty s.e.isEmpty (l.map (·.1)).isEmpty nd ne ns (stl (l.map (·.1))) l (fun p hp=>back_x6 s l h hmu p hp) (fun p hp=>⟨(k1 p hp).x6,by have:=k2 p hp;omega⟩) ⟨by omega,by omega,by rw [length_stl,List.length_map];omega⟩ ⟨by omega,by omega,by omega⟩
   have s2:=script_Same s s h.ok h.ok s.d.isEmpty s.e.isEmpty (l.map (·.1)).isEmpty nd ne ns (stl (l.map (·.1))) l (fun p hp=>(back_x6 s l h hmu p hp).1) (fun p hp=>(k1 p hp).x6) ⟨by omega,by omega,by rw [length_stl,List.length_map];omega⟩ ⟨by omega,by omega,by omega⟩
   have s3:=ref_Same s s h.ok h.ok s.d.isEmpty s.e.isEmpty true nd ne true [] [] (fun p hp=>absurd hp (by simp)) (fun p hp=>absurd hp (by simp)) ⟨by omega,by omega,by simp⟩ ⟨by omega,by omega,by simp⟩
   rw [decide_eq_true ⟨rfl,stp_stl l⟩] at s1 s2
   rw [decide_eq_true ⟨rfl,rfl⟩] at s3
   have hln:=script_Lines s nd ne
   have t1:=law_setup s hm s.d.isEmpty s.e.isEmpty
   have t2:=law_setup s hm nd ne
   have hbk:=fun (L:ABox) hl hl' hy0 hyS=>back_lines s h.ok hmay.1 k3 k4 nd ne [.cells [.bool false] 4,.cells (psC ⟨s,l.map (·.1),r⟩) 48] 2 rfl (.cells [.int .i64 0] 32) L (by
    simp [belS,belB,bels_scC,bels,bel,psC]) (by
    simp [belS,belB,bels_scC,bels,bel,psC]) hl hl' hy0 hyS
   simp only [List.cons_append,List.nil_append,zeroC_lit,su0_lit] at hbk
   unfold psR psC at hP
   unfold psC at hbk
   simp only at hbk
   simp only at hP
   generalize scT s l=t at *
   clear hmay hmu hrun k1 k2 k3 k4 k5 hsm hj
   refine pure_fnK cxOk Tryz.func7 (fun _=>false) (fe7.q) (by kernel_rfl) (by dsimp only [Tryz.f7,go_sem,seval,liteO,Option.map,List.map];exact .mk _) ?_
   dsimp only [Tryz.f7,frame0,List.zipIdx,List.map,Nat.reduceAdd]
   try simp only [List.getElem?_toArray,List.getElem?_cons_succ,List.getElem?_cons_zero,Option.bind_some]
   repeat' (first|(apply aL_boxI;(case hg=>(simp (disch:=omega) only [go_sem,seval,hm,decide_true,decide_false,not_false_eq_true,not_true_eq_false,beq_self_eq_true,bne_self_eq_false]));(case h=>(simp (disch:=omega) only [go_sem,seval,hm,decide_true,decide_false,not_false_eq_true,not_true_eq_false,beq_self_eq_true,bne_self_eq_false]<;>with_reducible rfl));(case hf=>(simp only [go_sem]<;>with_reducible rfl));(case hs=>(simp (disch:=omega) only [go_sem,seval,hm,decide_true,decide_false,not_false_eq_true,not_true_eq_false,beq_self_eq_true,bne_self_eq_false])))|refine aC_seq ?_|refine aC_reg rfl ?_|refine aC_block ?_|refine aC_skip ?_|refine thenQ_normal ?_|refine aL_nil ?_|(apply aL_step;(·exact True.intro);(iterate 2 (·simp (disch:=omega) only [go_sem,seval,hm,decide_true,decide_false,not_false_eq_true,not_true_eq_false,beq_self_eq_true,bne_self_eq_false]<;>with_reducible rfl));(·simp only [go_sem]<;>with_reducible rfl))|(refine aC_condF ?_ ?_;(·simp (disch:=omega) only [go_sem,seval,hm,decide_true,decide_false,not_false_eq_true,not_true_eq_false,beq_self_eq_true,bne_self_eq_false]))|(refine aC_condP (by simp (disch:=omega) only [go_sem,seval,hm,decide_true,decide_false,not_false_eq_true,not_true_eq_false,beq_self_eq_true,bne_self_eq_false]<;>with_reducible rfl) ?_ ?_<;>(intro h;first|(exfalso;omega)|skip))|(apply aL_pK cxG (hk);(iterate 2 (·simp (disch:=omega) only [go_sem,seval,hm,decide_true,decide_false,not_false_eq_true,not_true_eq_false,beq_self_eq_true,bne_self_eq_false]<;>with_reducible rfl));(·simp only [go_sem]<;>with_reducible rfl);(·simp))|(apply aL_pK cxG (hMu);(iterate 2 (·simp (disch:=omega) only [go_sem,seval,hm,decide_true,decide_false,not_false_eq_true,not_true_eq_false,beq_self_eq_true,bne_self_eq_false]<;>with_reducible rfl));(·simp only [go_sem]<;>with_reducible rfl);(·simp))|(apply aL_pK cxG (hT);(iterate 2 (·simp (disch:=omega) only [go_sem,seval,hm,decide_true,decide_false,not_false_eq_true,not_true_eq_false,beq_self_eq_true,bne_self_eq_false]<;>with_reducible rfl));(·simp only [go_sem]<;>with_reducible rfl);(·simp))|(apply aL_pK cxG (hP);(iterate 2 (·simp (disch:=omega) only [go_sem,seval,hm,decide_true,decide_false,not_false_eq_true,not_true_eq_false,beq_self_eq_true,bne_self_eq_false]<;>with_reducible rfl));(·simp only [go_sem]<;>with_reducible rfl);(·simp))|(apply aL_pK cxG (q0);(iterate 2 (·simp (disch:=omega) only [go_sem,seval,hm,decide_true,decide_false,not_false_eq_true,not_true_eq_false,beq_self_eq_true,bne_self_eq_false]<;>with_reducible rfl));(·simp only [go_sem]<;>with_reducible rfl);(·simp))|(apply aL_pK cxG (s1);(iterate 2 (·simp (disch:=omega) only [go_sem,seval,hm,decide_true,decide_false,not_false_eq_true,not_true_eq_false,beq_self_eq_true,bne_self_eq_false]<;>with_reducible rfl));(·simp only [go_sem]<;>with_reducible rfl);(·simp))|(apply aL_pK cxG (s2);(iterate 2 (·simp (disch:=omega) only [go_sem,seval,hm,decide_true,decide_false,not_false_eq_true,not_true_eq_false,beq_self_eq_true,bne_self_eq_false]<;>with_reducible rfl));(·simp only [go_sem]<;>with_reducible rfl);(·simp))|(apply aL_pK cxG (hln);(iterate 2 (·simp (disch:=omega) only [go_sem,seval,hm,decide_true,decide_false,not_false_eq_true,not_true_eq_false,beq_self_eq_true,bne_self_eq_false]<;>with_reducible rfl));(·simp only [go_sem]<;>with_reducible rfl);(·simp))|fail)
   all_goals try (first|exact True.intro|exact not_false|omega|(simp (disch:=omega) only [go_sem,seval]<;>omega))
   all_goals clear hk hMu hT hP s1 s2 hln
   refine aC_rangeFnA (n:=4) (r:=.tup []) [.cells [.bool false] 4,.cells (scC s s.d.isEmpty s.e.isEmpty (stl (l.map fun x:Sp × Bool=>x.1)) (l.map fun x:Sp × Bool=>x.1).isEmpty) 48,.cells [.int .i64 0] 32,.cells (suC s s.d.isEmpty s.e.isEmpty) 45] [] rfl rfl rfl ?_ ?_ ?_
   ·simp only [List.cons_append,List.nil_append,List.length_cons,List.length_nil,Nat.reduceAdd]
    refine hbk _ ?_ ?_ ?_ ?_
    ·simp [belS,belB,belF,bel,bels,bels_append',bels_bytes',bels_dgs,bels_wl,bels_sts,bels_suC,bels_scC,belT,Nat.blt]
    ·simp [belS,belB,belF,bel,bels,bels_append',bels_bytes',bels_dgs,bels_wl,bels_sts,bels_suC,bels_scC,belT,Nat.blt]
    ·intro x y2 n2 e2 q hb2 hTk
     refine ayield_hand cxOk (p:=fun _=>false) (q:=fun _=>none) rfl rfl (by kernel_rfl) (by kernel_rfl) (by kernel_rfl) (by kernel_rfl) (by kernel_rfl) rfl rfl ?_
     dsimp only [putAll,lite,nextOf,Option.isNone,Bool.not_true,Bool.not_false,Bool.and_true,Bool.true_and,Bool.false_and,Bool.and_self,Bool.false_eq_true,if_false,if_true,↓reduceIte,liteO,List.map,Option.map,List.zipIdx,Nat.reduceAdd]
     try simp only [List.getElem?_toArray,List.getElem?_cons_succ,List.getElem?_cons_zero,Option.bind_some]
     clear hbk s3 t1 t2
     repeat' (first|refine aC_reg rfl ?_|refine aL_nil ?_|(apply aL_step;(·exact True.intro);(iterate 2 (·simp (disch:=omega) only [go_sem,seval]<;>with_reducible rfl));(·simp only [go_sem]<;>with_reducible rfl))|fail)
     refine ⟨rfl,rfl,?_⟩
     repeat' (first|refine aC_seq ?_|refine aC_reg rfl ?_|refine aC_block ?_|refine aC_skip ?_|refine thenQ_normal ?_|refine blockQ_normal ?_|refine aL_nil ?_|(apply aL_step;(·exact True.intro);(iterate 2 (·simp (disch:=omega) only [go_sem,seval,decide_true,decide_false,not_false_eq_true,hb2]<;>with_reducible rfl));(·simp only [go_sem]<;>with_reducible rfl))|(refine aC_condF ?_ ?_;(·simp (disch:=omega) only [go_sem,seval,decide_true,decide_false,not_false_eq_true,hb2]))|(apply aL_pW cxG (hTk);(iterate 3 (·simp (disch:=omega) only [go_sem,seval,decide_true,decide_false,not_false_eq_true,hb2]<;>with_reducible rfl));(·simp only [go_sem]<;>with_reducible rfl);(·simp);(·simp only [go_sem]<;>with_reducible rfl))|(apply aL_pK cxG (q0);(iterate 2 (·simp (disch:=omega) only [go_sem,seval,decide_true,decide_false,not_false_eq_true,hb2]<;>with_reducible rfl));(·simp only [go_sem]<;>with_reducible rfl);(·simp))|fail)
     all_goals first|exact ⟨rfl,rfl⟩|trivial|omega|skip
    ·intro x y1 y2 n1 e1 n2 e2 q hb1 hb2 hTk
     refine ayield_hand cxOk (p:=fun _=>false) (q:=fun _=>none) rfl rfl (by kernel_rfl) (by kernel_rfl) (by kernel_rfl) (by kernel_rfl) (by kernel_rfl) rfl rfl ?_
     dsimp only [putAll,lite,nextOf,Option.isNone,Bool.not_true,Bool.not_false,Bool.and_true,Bool.true_and,Bool.false_and,Bool.and_self,Bool.false_eq_true,if_false,if_true,↓reduceIte,liteO,List.map,Option.map,List.zipIdx,Nat.reduceAdd]
     try simp only [List.getElem?_toArray,List.getElem?_cons_succ,List.getElem?_cons_zero,Option.bind_some]
     clear hbk s3 t1 t2
     repeat' (first|refine aC_reg rfl ?_|refine aL_nil ?_|(apply aL_step;(·exact True.intro);(iterate 2 (·simp (disch:=omega) only [go_sem,seval]<;>with_reducible rfl));(·simp only [go_sem]<;>with_reducible rfl))|fail)
     refine ⟨rfl,rfl,?_⟩
     repeat' (first|refine aC_seq ?_|refine aC_reg rfl ?_|refine aC_block ?_|refine aC_skip ?_|refine thenQ_normal ?_|refine blockQ_normal ?_|refine aL_nil ?_|(apply aL_step;(·exact True.intro);(iterate 2 (·simp (disch:=omega) only [go_sem,seval,decide_true,decide_false,not_false_eq_true,hb2,hb1]<;>with_reducible rfl));(·simp only [go_sem]<;>with_reducible rfl))|(refine aC_condF ?_ ?_;(·simp (disch:=omega) only [go_sem,seval,decide_true,decide_false,not_false_eq_true,hb2,hb1]))|(apply aL_pK cxG (hTk);(iterate 2 (·simp (disch:=omega) only [go_sem,seval,decide_true,decide_false,not_false_eq_true,hb2,hb1]<;>with_reducible rfl));(·simp only [go_sem]<;>with_reducible rfl);(·simp))|(apply aL_pK cxG (q0);(iterate 2 (·simp (disch:=omega) only [go_sem,seval,decide_true,decide_false,not_false_eq_true,hb2,hb1]<;>with_reducible rfl));(·simp only [go_sem]<;>with_reducible rfl);(·simp))|fail)
     all_goals first|exact ⟨rfl,rfl⟩|trivial|omega|skip
   ·simp [belS,belB,belF,bel,bels,bels_append',bels_bytes',bels_dgs,bels_wl,bels_sts,bels_suC,bels_scC,belT,Nat.blt]
   ·intro Lx hLx
    simp only [List.cons_append,List.nil_append]
    clear hbk
    repeat' (first|refine aC_seq ?_|refine thenQ_normal ?_|refine blockQ_normal ?_|fail)
    refine aC_regB (U:=[(some 99,some 97)]) rfl [(some 96,3)] ?_
    repeat' (first|refine aLB_nil ?_|(apply aLB_step;(·exact True.intro);(·exact (by intro h;cases h));(·rfl);(·simp (disch:=omega) only [go_sem,seval,hm]);(·simp (disch:=omega) only [go_sem,seval,hm]<;>with_reducible rfl);(·simp only [go_sem]<;>with_reducible rfl);(·(intro b hb;first|(cases hb;done)|(simp (disch:=omega) only [loadBox,go_sem,seval] at hb;(try injection hb with hb);subst hb;simp))))|(apply aLB_write;(·exact True.intro);(·rfl);(·rfl);(·simp (disch:=omega) only [go_sem,seval,hm]);(·simp (disch:=omega) only [go_sem,seval,hm]<;>with_reducible rfl);(·simp only [go_sem]<;>with_reducible rfl);(·simp))|(apply aLB_pure cxG (t1);(case hg=>(simp (disch:=omega) only [go_sem,seval,hm]));(case hx=>(simp (disch:=omega) only [go_sem,seval,hm]<;>with_reducible rfl));(case ha=>(simp (disch:=omega) only [go_sem,seval,hm]<;>with_reducible rfl));(case he=>(simp only [go_sem]<;>with_reducible rfl));(case hcl=>(simp));(case hf=>(simp only [go_sem]<;>with_reducible rfl)))|(apply aLB_pure cxG (t2);(case hg=>(simp (disch:=omega) only [go_sem,seval,hm]));(case hx=>(simp (disch:=omega) only [go_sem,seval,hm]<;>with_reducible rfl));(case ha=>(simp (disch:=omega) only [go_sem,seval,hm]<;>with_reducible rfl));(case he=>(simp only [go_sem]<;>with_reducible rfl));(case hcl=>(simp));(case hf=>(simp only [go_sem]<;>with_reducible rfl)))|(apply aLB_pure cxG (s3);(case hg=>(simp (disch:=omega) only [go_sem,seval,hm]));(case hx=>(simp (disch:=omega) only [go_sem,seval,hm]<;>with_reducible rfl));(case ha=>(simp (disch:=omega) only [go_sem,seval,hm]<;>with_reducible rfl));(case he=>(simp only [go_sem]<;>with_reducible rfl));(case hcl=>(simp));(case hf=>(simp only [go_sem]<;>with_reducible rfl)))|fail)
    repeat' (first|refine aC_ret ?_|refine thenQ_normal ?_|fail)
    all_goals try (first|exact True.intro|exact not_false|omega|(simp (disch:=omega) only [go_sem,seval]<;>omega))
    all_goals try (simp (disch:=omega) only [go_sem,seval])
    all_goals try simp
end
end Go.Am
end
section
namespace Go.Am
open Go Go.Proofs
set_option maxHeartbeats 8000000
set_option maxRecDepth 100000
section
attribute [local irreducible] aC aL thenQ blockQ scopeQ ALoop AWp
theorem law_back_A4 (s:Su) (nd ne ns:Bool) (l:List (Sp × Bool)) (h:ScW s l) (text:List UInt8) (ht:text.length≤20000) (p:Ps) (hpm:p.s.m.length=32) (n:Nat) (P1:APure cx 13 [.str text] (psR n 4 (psC p))) :
  APure cx 7 [.agg (scC s nd ne l ns),.str text] (.bool true):=by
 have hk:=script_known
 have q0:=law_num25 0
 have q2:=law_num25 2
 have q4:=law_num25 4
 have hm:=h.ok.m32
 have hMu:=ref_Much s hm nd ne ns l (fun p hp=>(h.st p hp).x6) h.len
 unfold psR psC at P1
 by_cases hmu:MuchS s l
 case pos =>
  rw [decide_eq_true hmu] at hMu
  clear hmu h
  refine pure_fnK cxOk Tryz.func7 (fun _=>false) (fe7.q) (by kernel_rfl) (by dsimp only [Tryz.f7,go_sem,seval,liteO,Option.map,List.map];exact .mk _) ?_
  dsimp only [Tryz.f7,frame0,List.zipIdx,List.map,Nat.reduceAdd]
  try simp only [List.getElem?_toArray,List.getElem?_cons_succ,List.getElem?_cons_zero,Option.bind_some]
  repeat' (first|(apply aL_boxI;(case hg=>(simp (disch:=omega) only [go_sem,seval,hm,decide_true,decide_false,not_false_eq_true,not_true_eq_false]));(case h=>(simp (disch:=omega) only [go_sem,seval,hm,decide_true,decide_false,not_false_eq_true,not_true_eq_false]<;>with_reducible rfl));(case hf=>(simp only [go_sem]<;>with_reducible rfl));(case hs=>(simp (disch:=omega) only [go_sem,seval,hm,decide_true,decide_false,not_false_eq_true,not_true_eq_false])))|refine aC_seq ?_|refine aC_reg rfl ?_|refine aC_skip ?_|refine aC_ret ?_|refine thenQ_normal ?_|refine thenQ_ret ?_|refine aL_nil ?_|(apply aL_step;(·exact True.intro);(iterate 2 (·simp (disch:=omega) only [go_sem,seval,hm,decide_true,decide_false,not_false_eq_true,not_true_eq_false]<;>with_reducible rfl));(·simp only [go_sem]<;>with_reducible rfl))|(refine aC_condT ?_ ?_;(·simp (disch:=omega) only [go_sem,seval,hm,decide_true,decide_false,not_false_eq_true,not_true_eq_false]))|(refine aC_condF ?_ ?_;(·simp (disch:=omega) only [go_sem,seval,hm,decide_true,decide_false,not_false_eq_true,not_true_eq_false]))|(refine aC_condP (by simp (disch:=omega) only [go_sem,seval,hm,decide_true,decide_false,not_false_eq_true,not_true_eq_false]<;>with_reducible rfl) ?_ ?_<;>(intro h;first|(exfalso;omega)|skip))|(apply aL_pK cxG (hk);(iterate 2 (·simp (disch:=omega) only [go_sem,seval,hm,decide_true,decide_false,not_false_eq_true,not_true_eq_false]<;>with_reducible rfl));(·simp only [go_sem]<;>with_reducible rfl);(·simp))|(apply aL_pK cxG (P1);(iterate 2 (·simp (disch:=omega) only [go_sem,seval,hm,decide_true,decide_false,not_false_eq_true,not_true_eq_false]<;>with_reducible rfl));(·simp only [go_sem]<;>with_reducible rfl);(·simp))|(apply aL_pK cxG (q4);(iterate 2 (·simp (disch:=omega) only [go_sem,seval,hm,decide_true,decide_false,not_false_eq_true,not_true_eq_false]<;>with_reducible rfl));(·simp only [go_sem]<;>with_reducible rfl);(·simp))|(apply aL_pK cxG (hMu);(iterate 2 (·simp (disch:=omega) only [go_sem,seval,hm,decide_true,decide_false,not_false_eq_true,not_true_eq_false]<;>with_reducible rfl));(·simp only [go_sem]<;>with_reducible rfl);(·simp))|fail)
  all_goals try (first|exact True.intro|exact not_false|omega|(simp (disch:=omega) only [go_sem,seval]<;>omega))
  all_goals clear hk hMu q0 q2 q4 P1
  all_goals try (simp (disch:=omega) only [go_sem,seval])
  all_goals try simp
 case neg =>
  rw [decide_eq_false hmu] at hMu
  obtain ⟨k1,k2,k3,k4,k5⟩:=h.okS hmu
  by_cases hmay:MaySu s∧∀ p∈l,MayS p.1
  case neg =>
   have hT:=script_Text_no s h.ok nd ne ns l (fun p hp=>(h.st p hp).x6) (by omega) hmay
   clear hmay hmu h k1 k2
   refine pure_fnK cxOk Tryz.func7 (fun _=>false) (fe7.q) (by kernel_rfl) (by dsimp only [Tryz.f7,go_sem,seval,liteO,Option.map,List.map];exact .mk _) ?_
   dsimp only [Tryz.f7,frame0,List.zipIdx,List.map,Nat.reduceAdd]
   try simp only [List.getElem?_toArray,List.getElem?_cons_succ,List.getElem?_cons_zero,Option.bind_some]
   repeat' (first|(apply aL_boxI;(case hg=>(simp (disch:=omega) only [go_sem,seval,hm,decide_true,decide_false,not_false_eq_true,not_true_eq_false]));(case h=>(simp (disch:=omega) only [go_sem,seval,hm,decide_true,decide_false,not_false_eq_true,not_true_eq_false]<;>with_reducible rfl));(case hf=>(simp only [go_sem]<;>with_reducible rfl));(case hs=>(simp (disch:=omega) only [go_sem,seval,hm,decide_true,decide_false,not_false_eq_true,not_true_eq_false])))|refine aC_seq ?_|refine aC_reg rfl ?_|refine aC_skip ?_|refine aC_ret ?_|refine thenQ_normal ?_|refine thenQ_ret ?_|refine aL_nil ?_|(apply aL_step;(·exact True.intro);(iterate 2 (·simp (disch:=omega) only [go_sem,seval,hm,decide_true,decide_false,not_false_eq_true,not_true_eq_false]<;>with_reducible rfl));(·simp only [go_sem]<;>with_reducible rfl))|(refine aC_condT ?_ ?_;(·simp (disch:=omega) only [go_sem,seval,hm,decide_true,decide_false,not_false_eq_true,not_true_eq_false]))|(refine aC_condF ?_ ?_;(·simp (disch:=omega) only [go_sem,seval,hm,decide_true,decide_false,not_false_eq_true,not_true_eq_false]))|(refine aC_condP (by simp (disch:=omega) only [go_sem,seval,hm,decide_true,decide_false,not_false_eq_true,not_true_eq_false]<;>with_reducible rfl) ?_ ?_<;>(intro h;first|(exfalso;omega)|skip))|(apply aL_pK cxG (hk);(iterate 2 (·simp (disch:=omega) only [go_sem,seval,hm,decide_true,decide_false,not_false_eq_true,not_true_eq_false]<;>with_reducible rfl));(·simp only [go_sem]<;>with_reducible rfl);(·simp))|(apply aL_pK cxG (P1);(iterate 2 (·simp (disch:=omega) only [go_sem,seval,hm,decide_true,decide_false,not_false_eq_true,not_true_eq_false]<;>with_reducible rfl));(·simp only [go_sem]<;>with_reducible rfl);(·simp))|(apply aL_pK cxG (q4);(iterate 2 (·simp (disch:=omega) only [go_sem,seval,hm,decide_true,decide_false,not_false_eq_true,not_true_eq_false]<;>with_reducible rfl));(·simp only [go_sem]<;>with_reducible rfl);(·simp))|(apply aL_pK cxG (hMu);(iterate 2 (·simp (disch:=omega) only [go_sem,seval,hm,decide_true,decide_false,not_false_eq_true,not_true_eq_false]<;>with_reducible rfl));(·simp only [go_sem]<;>with_reducible rfl);(·simp))|(apply aL_pK cxG (hT);(iterate 2 (·simp (disch:=omega) only [go_sem,seval,hm,decide_true,decide_false,not_false_eq_true,not_true_eq_false]<;>with_reducible rfl));(·simp only [go_sem]<;>with_reducible rfl);(·simp))|(apply aL_pK cxG (q2);(iterate 2 (·simp (disch:=omega) only [go_sem,seval,hm,decide_true,decide_false,not_false_eq_true,not_true_eq_false]<;>with_reducible rfl));(·simp only [go_sem]<;>with_reducible rfl);(·simp))|fail)
   all_goals try (first|exact True.intro|exact not_false|omega|(simp (disch:=omega) only [go_sem,seval]<;>omega))
   all_goals clear hk hMu hT q0 q2 q4 P1
   all_goals try (simp (disch:=omega) only [go_sem,seval])
   all_goals try simp
  case pos =>
   have hsm:=scT_small s l h hmu hmay.1
   have hT:=script_Text_ok s h.ok nd ne ns l k1 (by omega) hmay.1 hmay.2
   rw [if_neg (by omega)] at hT
   obtain ⟨r,hrun⟩:=run_script s h.ok hmay.1 (l.map (·.1)) (fun x hx=>by
    obtain ⟨p,hp,rfl⟩:=List.mem_map.1 hx
    exact ⟨hmay.2 p hp,k1 p hp⟩) (by rw [List.length_map];omega)
   have hj:scT s l=jn (linesL s++(l.map (·.1)).map lineS) []:=by
    unfold scT
    rw [← txt_app,txt_jn]
    simp [Function.comp_def]
   have hP:=back_parse s l h hmu hmay r hrun
   have s1:=ref_Same s s h.ok h.ok s.d.isEmpty s.e.isEmpty (l.map (·.1)).isEmpty nd ne ns (stl (l.map (·.1))) l (fun p hp=>back_x6 s l h hmu p hp) (fun p hp=>⟨(k1 p hp).x6,by have:=k2 p hp;omega⟩) ⟨by omega,by omega,by rw [length_stl,List.length_map];omega⟩ ⟨by omega,by omega,by omega⟩
   have s2:=script_Same s s h.ok h.ok s.d.isEmpty s.e.isEmpty (l.map (·.1)).isEmpty nd ne ns (stl (l.map (·.1))) l (fun p hp=>(back_x6 s l h hmu p hp).1) (fun p hp=>(k1 p hp).x6) ⟨by omega,by omega,by rw [length_stl,List.length_map];omega⟩ ⟨by omega,by omega,by omega⟩
   have s3:=ref_Same s s h.ok h.ok s.d.isEmpty s.e.isEmpty true nd ne true [] [] (fun p hp=>absurd hp (by simp)) (fun p hp=>absurd hp (by simp)) ⟨by omega,by omega,by simp⟩ ⟨by omega,by omega,by simp⟩
   rw [decide_eq_true ⟨rfl,stp_stl l⟩] at s1 s2
   rw [decide_eq_true ⟨rfl,rfl⟩] at s3
   have hln:=script_Lines s nd ne
   have t1:=law_setup s hm s.d.isEmpty s.e.isEmpty
   have t2:=law_setup s hm nd ne
   have hbk:=fun (L:ABox) hl hl' hy0 hyS=>back_lines s h.ok hmay.1 k3 k4 nd ne [.cells [.bool false] 4,.cells (psC p) 48,.cells (psC ⟨s,l.map (·.1),r⟩) 48] 3 rfl (.cells [.int .i64 0] 32) L (by
    simp [belS,belB,bels_scC,bels,bel,psC]) (by
    simp [belS,belB,bels_scC,bels,bel,psC]) hl hl' hy0 hyS
   simp only [List.cons_append,List.nil_append,zeroC_lit,su0_lit] at hbk
   unfold psR psC at hP
   unfold psC at hbk
   simp only at hbk
   simp only at hP
   generalize scT s l=t at *
   clear hmay hmu hrun k1 k2 k3 k4 k5 hsm hj
   refine pure_fnK cxOk Tryz.func7 (fun _=>false) (fe7.q) (by kernel_rfl) (by dsimp only [Tryz.f7,go_sem,seval,liteO,Option.map,List.map];exact .mk _) ?_
   dsimp only [Tryz.f7,frame0,List.zipIdx,List.map,Nat.reduceAdd]
   try simp only [List.getElem?_toArray,List.getElem?_cons_succ,List.getElem?_cons_zero,Option.bind_some]
   repeat' (first|(apply aL_boxI;(case hg=>(simp (disch:=omega) only [go_sem,seval,hm,decide_true,decide_false,not_false_eq_true,not_true_eq_false,beq_self_eq_true,bne_self_eq_false]));(case h=>(simp (disch:=omega) only [go_sem,seval,hm,decide_true,decide_false,not_false_eq_true,not_true_eq_false,beq_self_eq_true,bne_self_eq_false]<;>with_reducible rfl));(case hf=>(simp only [go_sem]<;>with_reducible rfl));(case hs=>(simp (disch:=omega) only [go_sem,seval,hm,decide_true,decide_false,not_false_eq_true,not_true_eq_false,beq_self_eq_true,bne_self_eq_false])))|refine aC_seq ?_|refine aC_reg rfl ?_|refine aC_block ?_|refine aC_skip ?_|refine thenQ_normal ?_|refine aL_nil ?_|(apply aL_step;(·exact True.intro);(iterate 2 (·simp (disch:=omega) only [go_sem,seval,hm,decide_true,decide_false,not_false_eq_true,not_true_eq_false,beq_self_eq_true,bne_self_eq_false]<;>with_reducible rfl));(·simp only [go_sem]<;>with_reducible rfl))|(refine aC_condF ?_ ?_;(·simp (disch:=omega) only [go_sem,seval,hm,decide_true,decide_false,not_false_eq_true,not_true_eq_false,beq_self_eq_true,bne_self_eq_false]))|(refine aC_condP (by simp (disch:=omega) only [go_sem,seval,hm,decide_true,decide_false,not_false_eq_true,not_true_eq_false,beq_self_eq_true,bne_self_eq_false]<;>with_reducible rfl) ?_ ?_<;>(intro h;first|(exfalso;omega)|skip))|(apply aL_pK cxG (hk);(iterate 2 (·simp (disch:=omega) only [go_sem,seval,hm,decide_true,decide_false,not_false_eq_true,not_true_eq_false,beq_self_eq_true,bne_self_eq_false]<;>with_reducible rfl));(·simp only [go_sem]<;>with_reducible rfl);(·simp))|(apply aL_pK cxG (P1);(iterate 2 (·simp (disch:=omega) only [go_sem,seval,hm,decide_true,decide_false,not_false_eq_true,not_true_eq_false,beq_self_eq_true,bne_self_eq_false]<;>with_reducible rfl));(·simp only [go_sem]<;>with_reducible rfl);(·simp))|(apply aL_pK cxG (q4);(iterate 2 (·simp (disch:=omega) only [go_sem,seval,hm,decide_true,decide_false,not_false_eq_true,not_true_eq_false,beq_self_eq_true,bne_self_eq_false]<;>with_reducible rfl));(·simp only [go_sem]<;>with_reducible rfl);(·simp))|(apply aL_pK cxG (hMu);(iterate 2 (·simp (disch:=omega) only [go_sem,seval,hm,decide_true,decide_false,not_false_eq_true,not_true_eq_false,beq_self_eq_true,bne_self_eq_false]<;>with_reducible rfl));(·simp only [go_sem]<;>with_reducible rfl);(·simp))|(apply aL_pK cxG (hT);(iterate 2 (·simp (disch:=omega) only [go_sem,seval,hm,decide_true,decide_false,not_false_eq_true,not_true_eq_false,beq_self_eq_true,bne_self_eq_false]<;>with_reducible rfl));(·simp only [go_sem]<;>with_reducible rfl);(·simp))|(apply aL_pK cxG (hP);(iterate 2 (·simp (disch:=omega) only [go_sem,seval,hm,decide_true,decide_false,not_false_eq_true,not_true_eq_false,beq_self_eq_true,bne_self_eq_false]<;>with_reducible rfl));(·simp only [go_sem]<;>with_reducible rfl);(·simp))|(apply aL_pK cxG (q0);(iterate 2 (·simp (disch:=omega) only [go_sem,seval,hm,decide_true,decide_false,not_false_eq_true,not_true_eq_false,beq_self_eq_true,bne_self_eq_false]<;>with_reducible rfl));(·simp only [go_sem]<;>with_reducible rfl);(·simp))|(apply aL_pK cxG (s1);(iterate 2 (·simp (disch:=omega) only [go_sem,seval,hm,decide_true,decide_false,not_false_eq_true,not_true_eq_false,beq_self_eq_true,bne_self_eq_false]<;>with_reducible rfl));(·simp only [go_sem]<;>with_reducible rfl);(·simp))|(apply aL_pK cxG (s2);(iterate 2 (·simp (disch:=omega) only [go_sem,seval,hm,decide_true,decide_false,not_false_eq_true,not_true_eq_false,beq_self_eq_true,bne_self_eq_false]<;>with_reducible rfl));(·simp only [go_sem]<;>with_reducible rfl);(·simp))|(apply aL_pK cxG (hln);(iterate 2 (·simp (disch:=omega) only [go_sem,seval,hm,decide_true,decide_false,not_false_eq_true,not_true_eq_false,beq_self_eq_true,bne_self_eq_false]<;>with_reducible rfl));(·simp only [go_sem]<;>with_reducible rfl);(·simp))|fail)
   all_goals try (first|exact True.intro|exact not_false|omega|(simp (disch:=omega) only [go_sem,seval]<;>omega))
   all_goals clear hk hMu hT hP s1 s2 hln P1
   refine aC_rangeFnA (n:=5) (r:=.tup []) [.cells [.bool false] 4,.cells (scC p.s p.s.d.isEmpty p.s.e.isEmpty (stl p.l) p.l.isEmpty) 48,.cells (scC s s.d.isEmpty s.e.isEmpty (stl (l.map fun x:Sp × Bool=>x.1)) (l.map fun x:Sp × Bool=>x.1).isEmpty) 48,.cells [.int .i64 0] 32,.cells (suC s s.d.isEmpty s.e.isEmpty) 45] [] rfl rfl rfl ?_ ?_ ?_
   ·simp only [List.cons_append,List.nil_append,List.length_cons,List.length_nil,Nat.reduceAdd]
    refine hbk _ ?_ ?_ ?_ ?_
    ·simp [belS,belB,belF,bel,bels,bels_append',bels_bytes',bels_dgs,bels_wl,bels_sts,bels_suC,bels_scC,belT,Nat.blt]
    ·simp [belS,belB,belF,bel,bels,bels_append',bels_bytes',bels_dgs,bels_wl,bels_sts,bels_suC,bels_scC,belT,Nat.blt]
    ·intro x y2 n2 e2 q hb2 hTk
     refine ayield_hand cxOk (p:=fun _=>false) (q:=fun _=>none) rfl rfl (by kernel_rfl) (by kernel_rfl) (by kernel_rfl) (by kernel_rfl) (by kernel_rfl) rfl rfl ?_
     dsimp only [putAll,lite,nextOf,Option.isNone,Bool.not_true,Bool.not_false,Bool.and_true,Bool.true_and,Bool.false_and,Bool.and_self,Bool.false_eq_true,if_false,if_true,↓reduceIte,liteO,List.map,Option.map,List.zipIdx,Nat.reduceAdd]
     try simp only [List.getElem?_toArray,List.getElem?_cons_succ,List.getElem?_cons_zero,Option.bind_some]
     clear hbk s3 t1 t2
     repeat' (first|refine aC_reg rfl ?_|refine aL_nil ?_|(apply aL_step;(·exact True.intro);(iterate 2 (·simp (disch:=omega) only [go_sem,seval]<;>with_reducible rfl));(·simp only [go_sem]<;>with_reducible rfl))|fail)
     refine ⟨rfl,rfl,?_⟩
     repeat' (first|refine aC_seq ?_|refine aC_reg rfl ?_|refine aC_block ?_|refine aC_skip ?_|refine thenQ_normal ?_|refine blockQ_normal ?_|refine aL_nil ?_|(apply aL_step;(·exact True.intro);(iterate 2 (·simp (disch:=omega) only [go_sem,seval,decide_true,decide_false,not_false_eq_true,hb2]<;>with_reducible rfl));(·simp only [go_sem]<;>with_reducible rfl))|(refine aC_condF ?_ ?_;(·simp (disch:=omega) only [go_sem,seval,decide_true,decide_false,not_false_eq_true,hb2]))|(apply aL_pW cxG (hTk);(iterate 3 (·simp (disch:=omega) only [go_sem,seval,decide_true,decide_false,not_false_eq_true,hb2]<;>with_reducible rfl));(·simp only [go_sem]<;>with_reducible rfl);(·simp);(·simp only [go_sem]<;>with_reducible rfl))|(apply aL_pK cxG (q0);(iterate 2 (·simp (disch:=omega) only [go_sem,seval,decide_true,decide_false,not_false_eq_true,hb2]<;>with_reducible rfl));(·simp only [go_sem]<;>with_reducible rfl);(·simp))|fail)
     all_goals first|exact ⟨rfl,rfl⟩|trivial|omega|skip
    ·intro x y1 y2 n1 e1 n2 e2 q hb1 hb2 hTk
     refine ayield_hand cxOk (p:=fun _=>false) (q:=fun _=>none) rfl rfl (by kernel_rfl) (by kernel_rfl) (by kernel_rfl) (by kernel_rfl) (by kernel_rfl) rfl rfl ?_
     dsimp only [putAll,lite,nextOf,Option.isNone,Bool.not_true,Bool.not_false,Bool.and_true,Bool.true_and,Bool.false_and,Bool.and_self,Bool.false_eq_true,if_false,if_true,↓reduceIte,liteO,List.map,Option.map,List.zipIdx,Nat.reduceAdd]
     try simp only [List.getElem?_toArray,List.getElem?_cons_succ,List.getElem?_cons_zero,Option.bind_some]
     clear hbk s3 t1 t2
     repeat' (first|refine aC_reg rfl ?_|refine aL_nil ?_|(apply aL_step;(·exact True.intro);(iterate 2 (·simp (disch:=omega) only [go_sem,seval]<;>with_reducible rfl));(·simp only [go_sem]<;>with_reducible rfl))|fail)
     refine ⟨rfl,rfl,?_⟩
     repeat' (first|refine aC_seq ?_|refine aC_reg rfl ?_|refine aC_block ?_|refine aC_skip ?_|refine thenQ_normal ?_|refine blockQ_normal ?_|refine aL_nil ?_|(apply aL_step;(·exact True.intro);(iterate 2 (·simp (disch:=omega) only [go_sem,seval,decide_true,decide_false,not_false_eq_true,hb2,hb1]<;>with_reducible rfl));(·simp only [go_sem]<;>with_reducible rfl))|(refine aC_condF ?_ ?_;(·simp (disch:=omega) only [go_sem,seval,decide_true,decide_false,not_false_eq_true,hb2,hb1]))|(apply aL_pK cxG (hTk);(iterate 2 (·simp (disch:=omega) only [go_sem,seval,decide_true,decide_false,not_false_eq_true,hb2,hb1]<;>with_reducible rfl));(·simp only [go_sem]<;>with_reducible rfl);(·simp))|(apply aL_pK cxG (q0);(iterate 2 (·simp (disch:=omega) only [go_sem,seval,decide_true,decide_false,not_false_eq_true,hb2,hb1]<;>with_reducible rfl));(·simp only [go_sem]<;>with_reducible rfl);(·simp))|fail)
     all_goals first|exact ⟨rfl,rfl⟩|trivial|omega|skip
   ·simp [belS,belB,belF,bel,bels,bels_append',bels_bytes',bels_dgs,bels_wl,bels_sts,bels_suC,bels_scC,belT,Nat.blt]
   ·intro Lx hLx
    simp only [List.cons_append,List.nil_append]
    clear hbk
    repeat' (first|refine aC_seq ?_|refine thenQ_normal ?_|refine blockQ_normal ?_|fail)
    refine aC_regB (U:=[(some 99,some 97)]) rfl [(some 96,4)] ?_
    repeat' (first|refine aLB_nil ?_|(apply aLB_step;(·exact True.intro);(·exact (by intro h;cases h));(·rfl);(·simp (disch:=omega) only [go_sem,seval,hm]);(·simp (disch:=omega) only [go_sem,seval,hm]<;>with_reducible rfl);(·simp only [go_sem]<;>with_reducible rfl);(·(intro b hb;first|(cases hb;done)|(simp (disch:=omega) only [loadBox,go_sem,seval] at hb;(try injection hb with hb);subst hb;simp))))|(apply aLB_write;(·exact True.intro);(·rfl);(·rfl);(·simp (disch:=omega) only [go_sem,seval,hm]);(·simp (disch:=omega) only [go_sem,seval,hm]<;>with_reducible rfl);(·simp only [go_sem]<;>with_reducible rfl);(·simp))|(apply aLB_pure cxG (t1);(case hg=>(simp (disch:=omega) only [go_sem,seval,hm]));(case hx=>(simp (disch:=omega) only [go_sem,seval,hm]<;>with_reducible rfl));(case ha=>(simp (disch:=omega) only [go_sem,seval,hm]<;>with_reducible rfl));(case he=>(simp only [go_sem]<;>with_reducible rfl));(case hcl=>(simp));(case hf=>(simp only [go_sem]<;>with_reducible rfl)))|(apply aLB_pure cxG (t2);(case hg=>(simp (disch:=omega) only [go_sem,seval,hm]));(case hx=>(simp (disch:=omega) only [go_sem,seval,hm]<;>with_reducible rfl));(case ha=>(simp (disch:=omega) only [go_sem,seval,hm]<;>with_reducible rfl));(case he=>(simp only [go_sem]<;>with_reducible rfl));(case hcl=>(simp));(case hf=>(simp only [go_sem]<;>with_reducible rfl)))|(apply aLB_pure cxG (s3);(case hg=>(simp (disch:=omega) only [go_sem,seval,hm]));(case hx=>(simp (disch:=omega) only [go_sem,seval,hm]<;>with_reducible rfl));(case ha=>(simp (disch:=omega) only [go_sem,seval,hm]<;>with_reducible rfl));(case he=>(simp only [go_sem]<;>with_reducible rfl));(case hcl=>(simp));(case hf=>(simp only [go_sem]<;>with_reducible rfl)))|fail)
    repeat' (first|refine aC_ret ?_|refine thenQ_normal ?_|fail)
    all_goals try (first|exact True.intro|exact not_false|omega|(simp (disch:=omega) only [go_sem,seval]<;>omega))
    all_goals try (simp (disch:=omega) only [go_sem,seval])
    all_goals try simp
theorem law_back_A0 (s:Su) (nd ne ns:Bool) (l:List (Sp × Bool)) (h:ScW s l) (text:List UInt8) (ht:text.length≤20000) (p:Ps) (hpm:p.s.m.length=32) (P1:APure cx 13 [.str text] (psR 0 0 (psC p))) (T1:APure cx 16 [.agg (psC p)] (.tup [.str text,.int .i64 0])) :
  APure cx 7 [.agg (scC s nd ne l ns),.str text] (.bool true):=by
 have hk:=script_known
 have q0:=law_num25 0
 have q2:=law_num25 2
 have q4:=law_num25 4
 have hm:=h.ok.m32
 have hMu:=ref_Much s hm nd ne ns l (fun p hp=>(h.st p hp).x6) h.len
 unfold psR psC at P1
 unfold psC at T1
 by_cases hmu:MuchS s l
 case pos =>
  rw [decide_eq_true hmu] at hMu
  clear hmu h
  refine pure_fnK cxOk Tryz.func7 (fun _=>false) (fe7.q) (by kernel_rfl) (by dsimp only [Tryz.f7,go_sem,seval,liteO,Option.map,List.map];exact .mk _) ?_
  dsimp only [Tryz.f7,frame0,List.zipIdx,List.map,Nat.reduceAdd]
  try simp only [List.getElem?_toArray,List.getElem?_cons_succ,List.getElem?_cons_zero,Option.bind_some]
  repeat' (first|(apply aL_boxI;(case hg=>(simp (disch:=omega) only [go_sem,seval,hm,decide_true,decide_false,not_false_eq_true,not_true_eq_false,beq_self_eq_true,bne_self_eq_false,eq_self_iff_true]));(case h=>(simp (disch:=omega) only [go_sem,seval,hm,decide_true,decide_false,not_false_eq_true,not_true_eq_false,beq_self_eq_true,bne_self_eq_false,eq_self_iff_true]<;>with_reducible rfl));(case hf=>(simp only [go_sem]<;>with_reducible rfl));(case hs=>(simp (disch:=omega) only [go_sem,seval,hm,decide_true,decide_false,not_false_eq_true,not_true_eq_false,beq_self_eq_true,bne_self_eq_false,eq_self_iff_true])))|refine aC_seq ?_|refine aC_reg rfl ?_|refine aC_skip ?_|refine aC_ret ?_|refine thenQ_normal ?_|refine thenQ_ret ?_|refine aL_nil ?_|(apply aL_step;(·exact True.intro);(iterate 2 (·simp (disch:=omega) only [go_sem,seval,hm,decide_true,decide_false,not_false_eq_true,not_true_eq_false,beq_self_eq_true,bne_self_eq_false,eq_self_iff_true]<;>with_reducible rfl));(·simp only [go_sem]<;>with_reducible rfl))|(refine aC_condT ?_ ?_;(·simp (disch:=omega) only [go_sem,seval,hm,decide_true,decide_false,not_false_eq_true,not_true_eq_false,beq_self_eq_true,bne_self_eq_false,eq_self_iff_true]))|(refine aC_condF ?_ ?_;(·simp (disch:=omega) only [go_sem,seval,hm,decide_true,decide_false,not_false_eq_true,not_true_eq_false,beq_self_eq_true,bne_self_eq_false,eq_self_iff_true]))|(refine aC_condP (by simp (disch:=omega) only [go_sem,seval,hm,decide_true,decide_false,not_false_eq_true,not_true_eq_false,beq_self_eq_true,bne_self_eq_false,eq_self_iff_true]<;>with_reducible rfl) ?_ ?_<;>(intro h;first|(exfalso;omega)|skip))|(apply aL_pK cxG (hk);(iterate 2 (·simp (disch:=omega) only [go_sem,seval,hm,decide_true,decide_false,not_false_eq_true,not_true_eq_false,beq_self_eq_true,bne_self_eq_false,eq_self_iff_true]<;>with_reducible rfl));(·simp only [go_sem]<;>with_reducible rfl);(·simp))|(apply aL_pK cxG (P1);(iterate 2 (·simp (disch:=omega) only [go_sem,seval,hm,decide_true,decide_false,not_false_eq_true,not_true_eq_false,beq_self_eq_true,bne_self_eq_false,eq_self_iff_true]<;>with_reducible rfl));(·simp only [go_sem]<;>with_reducible rfl);(·simp))|(apply aL_pK cxG (T1);(iterate 2 (·simp (disch:=omega) only [go_sem,seval,hm,decide_true,decide_false,not_false_eq_true,not_true_eq_false,beq_self_eq_true,bne_self_eq_false,eq_self_iff_true]<;>with_reducible rfl));(·simp only [go_sem]<;>with_reducible rfl);(·simp))|(apply aL_pK cxG (q0);(iterate 2 (·simp (disch:=omega) only [go_sem,seval,hm,decide_true,decide_false,not_false_eq_true,not_true_eq_false,beq_self_eq_true,bne_self_eq_false,eq_self_iff_true]<;>with_reducible rfl));(·simp only [go_sem]<;>with_reducible rfl);(·simp))|(apply aL_pK cxG (hMu);(iterate 2 (·simp (disch:=omega) only [go_sem,seval,hm,decide_true,decide_false,not_false_eq_true,not_true_eq_false,beq_self_eq_true,bne_self_eq_false,eq_self_iff_true]<;>with_reducible rfl));(·simp only [go_sem]<;>with_reducible rfl);(·simp))|fail)
  all_goals try (first|exact True.intro|exact not_false|omega|(simp (disch:=omega) only [go_sem,seval]<;>omega))
  all_goals clear hk hMu q0 q2 q4 P1 T1
  all_goals try (simp (disch:=omega) only [go_sem,seval])
  all_goals try simp
 case neg =>
  rw [decide_eq_false hmu] at hMu
  obtain ⟨k1,k2,k3,k4,k5⟩:=h.okS hmu
  by_cases hmay:MaySu s∧∀ p∈l,MayS p.1
  case neg =>
   have hT:=script_Text_no s h.ok nd ne ns l (fun p hp=>(h.st p hp).x6) (by omega) hmay
   clear hmay hmu h k1 k2
   refine pure_fnK cxOk Tryz.func7 (fun _=>false) (fe7.q) (by kernel_rfl) (by dsimp only [Tryz.f7,go_sem,seval,liteO,Option.map,List.map];exact .mk _) ?_
   dsimp only [Tryz.f7,frame0,List.zipIdx,List.map,Nat.reduceAdd]
   try simp only [List.getElem?_toArray,List.getElem?_cons_succ,List.getElem?_cons_zero,Option.bind_some]
   repeat' (first|(apply aL_boxI;(case hg=>(simp (disch:=omega) only [go_sem,seval,hm,decide_true,decide_false,not_false_eq_true,not_true_eq_false,beq_self_eq_true,bne_self_eq_false,eq_self_iff_true]));(case h=>(simp (disch:=omega) only [go_sem,seval,hm,decide_true,decide_false,not_false_eq_true,not_true_eq_false,beq_self_eq_true,bne_self_eq_false,eq_self_iff_true]<;>with_reducible rfl));(case hf=>(simp only [go_sem]<;>with_reducible rfl));(case hs=>(simp (disch:=omega) only [go_sem,seval,hm,decide_true,decide_false,not_false_eq_true,not_true_eq_false,beq_self_eq_true,bne_self_eq_false,eq_self_iff_true])))|refine aC_seq ?_|refine aC_reg rfl ?_|refine aC_skip ?_|refine aC_ret ?_|refine thenQ_normal ?_|refine thenQ_ret ?_|refine aL_nil ?_|(apply aL_step;(·exact True.intro);(iterate 2 (·simp (disch:=omega) only [go_sem,seval,hm,decide_true,decide_false,not_false_eq_true,not_true_eq_false,beq_self_eq_true,bne_self_eq_false,eq_self_iff_true]<;>with_reducible rfl));(·simp only [go_sem]<;>with_reducible rfl))|(refine aC_condT ?_ ?_;(·simp (disch:=omega) only [go_sem,seval,hm,decide_true,decide_false,not_false_eq_true,not_true_eq_false,beq_self_eq_true,bne_self_eq_false,eq_self_iff_true]))|(refine aC_condF ?_ ?_;(·simp (disch:=omega) only [go_sem,seval,hm,decide_true,decide_false,not_false_eq_true,not_true_eq_false,beq_self_eq_true,bne_self_eq_false,eq_self_iff_true]))|(refine aC_condP (by simp (disch:=omega) only [go_sem,seval,hm,decide_true,decide_false,not_false_eq_true,not_true_eq_false,beq_self_eq_true,bne_self_eq_false,eq_self_iff_true]<;>with_reducible rfl) ?_ ?_<;>(intro h;first|(exfalso;omega)|skip))|(apply aL_pK cxG (hk);(iterate 2 (·simp (disch:=omega) only [go_sem,seval,hm,decide_true,decide_false,not_false_eq_true,not_true_eq_false,beq_self_eq_true,bne_self_eq_false,eq_self_iff_true]<;>with_reducible rfl));(·simp only [go_sem]<;>with_reducible rfl);(·simp))|(apply aL_pK cxG (P1);(iterate 2 (·simp (disch:=omega) only [go_sem,seval,hm,decide_true,decide_false,not_false_eq_true,not_true_eq_false,beq_self_eq_true,bne_self_eq_false,eq_self_iff_true]<;>with_reducible rfl));(·simp only [go_sem]<;>with_reducible rfl);(·simp))|(apply aL_pK cxG (T1);(iterate 2 (·simp (disch:=omega) only [go_sem,seval,hm,decide_true,decide_false,not_false_eq_true,not_true_eq_false,beq_self_eq_true,bne_self_eq_false,eq_self_iff_true]<;>with_reducible rfl));(·simp only [go_sem]<;>with_reducible rfl);(·simp))|(apply aL_pK cxG (q0);(iterate 2 (·simp (disch:=omega) only [go_sem,seval,hm,decide_true,decide_false,not_false_eq_true,not_true_eq_false,beq_self_eq_true,bne_self_eq_false,eq_self_iff_true]<;>with_reducible rfl));(·simp only [go_sem]<;>with_reducible rfl);(·simp))|(apply aL_pK cxG (hMu);(iterate 2 (·simp (disch:=omega) only [go_sem,seval,hm,decide_true,decide_false,not_false_eq_true,not_true_eq_false,beq_self_eq_true,bne_self_eq_false,eq_self_iff_true]<;>with_reducible rfl));(·simp only [go_sem]<;>with_reducible rfl);(·simp))|(apply aL_pK cxG (hT);(iterate 2 (·simp (disch:=omega) only [go_sem,seval,hm,decide_true,decide_false,not_false_eq_true,not_true_eq_false,beq_self_eq_true,bne_self_eq_false,eq_self_iff_true]<;>with_reducible rfl));(·simp only [go_sem]<;>with_reducible rfl);(·simp))|(apply aL_pK cxG (q2);(iterate 2 (·simp (disch:=omega) only [go_sem,seval,hm,decide_true,decide_false,not_false_eq_true,not_true_eq_false,beq_self_eq_true,bne_self_eq_false,eq_self_iff_true]<;>with_reducible rfl));(·simp only [go_sem]<;>with_reducible rfl);(·simp))|fail)
   all_goals try (first|exact True.intro|exact not_false|omega|(simp (disch:=omega) only [go_sem,seval]<;>omega))
   all_goals clear hk hMu hT q0 q2 q4 P1 T1
   all_goals try (simp (disch:=omega) only [go_sem,seval])
   all_goals try simp
  case pos =>
   have hsm:=scT_small s l h hmu hmay.1
   have hT:=script_Text_ok s h.ok nd ne ns l k1 (by omega) hmay.1 hmay.2
   rw [if_neg (by omega)] at hT
   obtain ⟨r,hrun⟩:=run_script s h.ok hmay.1 (l.map (·.1)) (fun x hx=>by
    obtain ⟨p,hp,rfl⟩:=List.mem_map.1 hx
    exact ⟨hmay.2 p hp,k1 p hp⟩) (by rw [List.length_map];omega)
   have hj:scT s l=jn (linesL s++(l.map (·.1)).map lineS) []:=by
    unfold scT
    rw [← txt_app,txt_jn]
    simp [Function.comp_def]
   have hP:=back_parse s l h hmu hmay r hrun
   have s1:=ref_Same s s h.ok h.ok s.d.isEmpty s.e.isEmpty (l.map (·.1)).isEmpty nd ne ns (stl (l.map (·.1))) l (fun p hp=>back_x6 s l h hmu p hp) (fun p hp=>⟨(k1 p hp).x6,by have:=k2 p hp;omega⟩) ⟨by omega,by omega,by rw [length_stl,List.length_map];omega⟩ ⟨by omega,by omega,by omega⟩
   have s2:=script_Same s s h.ok h.ok s.d.isEmpty s.e.isEmpty (l.map (·.1)).isEmpty nd ne ns (stl (l.map (·.1))) l (fun p hp=>(back_x6 s l h hmu p hp).1) (fun p hp=>(k1 p hp).x6) ⟨by omega,by omega,by rw [length_stl,List.length_map];omega⟩ ⟨by omega,by omega,by omega⟩
   have s3:=ref_Same s s h.ok h.ok s.d.isEmpty s.e.isEmpty true nd ne true [] [] (fun p hp=>absurd hp (by simp)) (fun p hp=>absurd hp (by simp)) ⟨by omega,by omega,by simp⟩ ⟨by omega,by omega,by simp⟩
   rw [decide_eq_true ⟨rfl,stp_stl l⟩] at s1 s2
   rw [decide_eq_true ⟨rfl,rfl⟩] at s3
   have hln:=script_Lines s nd ne
   have t1:=law_setup s hm s.d.isEmpty s.e.isEmpty
   have t2:=law_setup s hm nd ne
   have hbk:=fun (L:ABox) hl hl' hy0 hyS=>back_lines s h.ok hmay.1 k3 k4 nd ne [.cells [.bool false] 4,.cells (psC p) 48,.cells (psC ⟨s,l.map (·.1),r⟩) 48] 3 rfl (.cells [.int .i64 0] 32) L (by
    simp [belS,belB,bels_scC,bels,bel,psC]) (by
    simp [belS,belB,bels_scC,bels,bel,psC]) hl hl' hy0 hyS
   simp only [List.cons_append,List.nil_append,zeroC_lit,su0_lit] at hbk
   unfold psR psC at hP
   unfold psC at hbk
   simp only at hbk
   simp only at hP
   generalize scT s l=t at *
   clear hmay hmu hrun k1 k2 k3 k4 k5 hsm hj
   refine pure_fnK cxOk Tryz.func7 (fun _=>false) (fe7.q) (by kernel_rfl) (by dsimp only [Tryz.f7,go_sem,seval,liteO,Option.map,List.map];exact .mk _) ?_
   dsimp only [Tryz.f7,frame0,List.zipIdx,List.map,Nat.reduceAdd]
   try simp only [List.getElem?_toArray,List.getElem?_cons_succ,List.getElem?_cons_zero,Option.bind_some]
   repeat' (first|(apply aL_boxI;(case hg=>(simp (disch:=omega) only [go_sem,seval,hm,decide_true,decide_false,not_false_eq_true,not_true_eq_false,beq_self_eq_true,bne_self_eq_false,eq_self_iff_true,beq_self_eq_true,bne_self_eq_false]));(case h=>(simp (disch:=omega) only [go_sem,seval,hm,decide_true,decide_false,not_false_eq_true,not_true_eq_false,beq_self_eq_true,bne_self_eq_false,eq_self_iff_true,beq_self_eq_true,bne_self_eq_false]<;>with_reducible rfl));(case hf=>(simp only [go_sem]<;>with_reducible rfl));(case hs=>(simp (disch:=omega) only [go_sem,seval,hm,decide_true,decide_false,not_false_eq_true,not_true_eq_false,beq_self_eq_true,bne_self_eq_false,eq_self_iff_true,beq_self_eq_true,bne_self_eq_false])))|refine aC_seq ?_|refine aC_reg rfl ?_|refine aC_block ?_|refine aC_skip ?_|refine thenQ_normal ?_|refine aL_nil ?_|(apply aL_step;(·exact True.intro);(iterate 2 (·simp (disch:=omega) only [go_sem,seval,hm,decide_true,decide_false,not_false_eq_true,not_true_eq_false,beq_self_eq_true,bne_self_eq_false,eq_self_iff_true,beq_self_eq_true,bne_self_eq_false]<;>with_reducible rfl));(·simp only [go_sem]<;>with_reducible rfl))|(refine aC_condT ?_ ?_;(·simp (disch:=omega) only [go_sem,seval,hm,decide_true,decide_false,not_false_eq_true,not_true_eq_false,beq_self_eq_true,bne_self_eq_false,eq_self_iff_true,beq_self_eq_true,bne_self_eq_false]))|(refine aC_condF ?_ ?_;(·simp (disch:=omega) only [go_sem,seval,hm,decide_true,decide_false,not_false_eq_true,not_true_eq_false,beq_self_eq_true,bne_self_eq_false,eq_self_iff_true,beq_self_eq_true,bne_self_eq_false]))|(refine aC_condP (by simp (disch:=omega) only [go_sem,seval,hm,decide_true,decide_false,not_false_eq_true,not_true_eq_false,beq_self_eq_true,bne_self_eq_false,eq_self_iff_true,beq_self_eq_true,bne_self_eq_false]<;>with_reducible rfl) ?_ ?_<;>(intro h;first|(exfalso;omega)|skip))|(apply aL_pK cxG (hk);(iterate 2 (·simp (disch:=omega) only [go_sem,seval,hm,decide_true,decide_false,not_false_eq_true,not_true_eq_false,beq_self_eq_true,bne_self_eq_false,eq_self_iff_true,beq_self_eq_true,bne_self_eq_false]<;>with_reducible rfl));(·simp only [go_sem]<;>with_reducible rfl);(·simp))|(apply aL_pK cxG (P1);(iterate 2 (·simp (disch:=omega) only [go_sem,seval,hm,decide_true,decide_false,not_false_eq_true,not_true_eq_false,beq_self_eq_true,bne_self_eq_false,eq_self_iff_true,beq_self_eq_true,bne_self_eq_false]<;>with_reducible rfl));(·simp only [go_sem]<;>with_reducible rfl);(·simp))|(apply aL_pK cxG (T1);(iterate 2 (·simp (disch:=omega) only [go_sem,seval,hm,decide_true,decide_false,not_false_eq_true,not_true_eq_false,beq_self_eq_true,bne_self_eq_false,eq_self_iff_true,beq_self_eq_true,bne_self_eq_false]<;>with_reducible rfl));(·simp only [go_sem]<;>with_reducible rfl);(·simp))|(apply aL_pK cxG (q0);(iterate 2 (·simp (disch:=omega) only [go_sem,seval,hm,decide_true,decide_false,not_false_eq_true,not_true_eq_false,beq_self_eq_true,bne_self_eq_false,eq_self_iff_true,beq_self_eq_true,bne_self_eq_false]<;>with_reducible rfl));(·simp only [go_sem]<;>with_reducible rfl);(·simp))|(apply aL_pK cxG (hMu);(iterate 2 (·simp (disch:=omega) only [go_sem,seval,hm,decide_true,decide_false,not_false_eq_true,not_true_eq_false,beq_self_eq_true,bne_self_eq_false,eq_self_iff_true,beq_self_eq_true,bne_self_eq_false]<;>with_reducible rfl));(·simp only [go_sem]<;>with_reducible rfl);(·simp))|(apply aL_pK cxG (hT);(iterate 2 (·simp (disch:=omega) only [go_sem,seval,hm,decide_true,decide_false,not_false_eq_true,not_true_eq_false,beq_self_eq_true,bne_self_eq_false,eq_self_iff_true,beq_self_eq_true,bne_self_eq_false]<;>with_reducible rfl));(·simp only [go_sem]<;>with_reducible rfl);(·simp))|(apply aL_pK cxG (hP);(iterate 2 (·simp (disch:=omega) only [go_sem,seval,hm,decide_true,decide_false,not_false_eq_true,not_true_eq_false,beq_self_eq_true,bne_self_eq_false,eq_self_iff_true,beq_self_eq_true,bne_self_eq_false]<;>with_reducible rfl));(·simp only [go_sem]<;>with_reducible rfl);(·simp))|(apply aL_pK cxG (s1);(iterate 2 (·simp (disch:=omega) only [go_sem,seval,hm,decide_true,decide_false,not_false_eq_true,not_true_eq_false,beq_self_eq_true,bne_self_eq_false,eq_self_iff_true,beq_self_eq_true,bne_self_eq_false]<;>with_reducible rfl));(·simp only [go_sem]<;>with_reducible rfl);(·simp))|(apply aL_pK cxG (s2);(iterate 2 (·simp (disch:=omega) only [go_sem,seval,hm,decide_true,decide_false,not_false_eq_true,not_true_eq_false,beq_self_eq_true,bne_self_eq_false,eq_self_iff_true,beq_self_eq_true,bne_self_eq_false]<;>with_reducible rfl));(·simp only [go_sem]<;>with_reducible rfl);(·simp))|(apply aL_pK cxG (hln);(iterate 2 (·simp (disch:=omega) only [go_sem,seval,hm,decide_true,decide_false,not_false_eq_true,not_true_eq_false,beq_self_eq_true,bne_self_eq_false,eq_self_iff_true,beq_self_eq_true,bne_self_eq_false]<;>with_reducible rfl));(·simp only [go_sem]<;>with_reducible rfl);(·simp))|fail)
   all_goals try (first|exact True.intro|exact not_false|omega|(simp (disch:=omega) only [go_sem,seval]<;>omega))
   all_goals clear hk hMu hT hP s1 s2 hln P1 T1
   refine aC_rangeFnA (n:=5) (r:=.tup []) [.cells [.bool false] 4,.cells (scC p.s p.s.d.isEmpty p.s.e.isEmpty (stl p.l) p.l.isEmpty) 48,.cells (scC s s.d.isEmpty s.e.isEmpty (stl (l.map fun x:Sp × Bool=>x.1)) (l.map fun x:Sp × Bool=>x.1).isEmpty) 48,.cells [.int .i64 0] 32,.cells (suC s s.d.isEmpty s.e.isEmpty) 45] [] rfl rfl rfl ?_ ?_ ?_
   ·simp only [List.cons_append,List.nil_append,List.length_cons,List.length_nil,Nat.reduceAdd]
    refine hbk _ ?_ ?_ ?_ ?_
    ·simp [belS,belB,belF,bel,bels,bels_append',bels_bytes',bels_dgs,bels_wl,bels_sts,bels_suC,bels_scC,belT,Nat.blt]
    ·simp [belS,belB,belF,bel,bels,bels_append',bels_bytes',bels_dgs,bels_wl,bels_sts,bels_suC,bels_scC,belT,Nat.blt]
    ·intro x y2 n2 e2 q hb2 hTk
     refine ayield_hand cxOk (p:=fun _=>false) (q:=fun _=>none) rfl rfl (by kernel_rfl) (by kernel_rfl) (by kernel_rfl) (by kernel_rfl) (by kernel_rfl) rfl rfl ?_
     dsimp only [putAll,lite,nextOf,Option.isNone,Bool.not_true,Bool.not_false,Bool.and_true,Bool.true_and,Bool.false_and,Bool.and_self,Bool.false_eq_true,if_false,if_true,↓reduceIte,liteO,List.map,Option.map,List.zipIdx,Nat.reduceAdd]
     try simp only [List.getElem?_toArray,List.getElem?_cons_succ,List.getElem?_cons_zero,Option.bind_some]
     clear hbk s3 t1 t2
     repeat' (first|refine aC_reg rfl ?_|refine aL_nil ?_|(apply aL_step;(·exact True.intro);(iterate 2 (·simp (disch:=omega) only [go_sem,seval]<;>with_reducible rfl));(·simp only [go_sem]<;>with_reducible rfl))|fail)
     refine ⟨rfl,rfl,?_⟩
     repeat' (first|refine aC_seq ?_|refine aC_reg rfl ?_|refine aC_block ?_|refine aC_skip ?_|refine thenQ_normal ?_|refine blockQ_normal ?_|refine aL_nil ?_|(apply aL_step;(·exact True.intro);(iterate 2 (·simp (disch:=omega) only [go_sem,seval,decide_true,decide_false,not_false_eq_true,hb2]<;>with_reducible rfl));(·simp only [go_sem]<;>with_reducible rfl))|(refine aC_condF ?_ ?_;(·simp (disch:=omega) only [go_sem,seval,decide_true,decide_false,not_false_eq_true,hb2]))|(apply aL_pW cxG (hTk);(iterate 3 (·simp (disch:=omega) only [go_sem,seval,decide_true,decide_false,not_false_eq_true,hb2]<;>with_reducible rfl));(·simp only [go_sem]<;>with_reducible rfl);(·simp);(·simp only [go_sem]<;>with_reducible rfl))|(apply aL_pK cxG (q0);(iterate 2 (·simp (disch:=omega) only [go_sem,seval,decide_true,decide_false,not_false_eq_true,hb2]<;>with_reducible rfl));(·simp only [go_sem]<;>with_reducible rfl);(·simp))|fail)
     all_goals first|exact ⟨rfl,rfl⟩|trivial|omega|skip
    ·intro x y1 y2 n1 e1 n2 e2 q hb1 hb2 hTk
     refine ayield_hand cxOk (p:=fun _=>false) (q:=fun _=>none) rfl rfl (by kernel_rfl) (by kernel_rfl) (by kernel_rfl) (by kernel_rfl) (by kernel_rfl) rfl rfl ?_
     dsimp only [putAll,lite,nextOf,Option.isNone,Bool.not_true,Bool.not_false,Bool.and_true,Bool.true_and,Bool.false_and,Bool.and_self,Bool.false_eq_true,if_false,if_true,↓reduceIte,liteO,List.map,Option.map,List.zipIdx,Nat.reduceAdd]
     try simp only [List.getElem?_toArray,List.getElem?_cons_succ,List.getElem?_cons_zero,Option.bind_some]
     clear hbk s3 t1 t2
     repeat' (first|refine aC_reg rfl ?_|refine aL_nil ?_|(apply aL_step;(·exact True.intro);(iterate 2 (·simp (disch:=omega) only [go_sem,seval]<;>with_reducible rfl));(·simp only [go_sem]<;>with_reducible rfl))|fail)
     refine ⟨rfl,rfl,?_⟩
     repeat' (first|refine aC_seq ?_|refine aC_reg rfl ?_|refine aC_block ?_|refine aC_skip ?_|refine thenQ_normal ?_|refine blockQ_normal ?_|refine aL_nil ?_|(apply aL_step;(·exact True.intro);(iterate 2 (·simp (disch:=omega) only [go_sem,seval,decide_true,decide_false,not_false_eq_true,hb2,hb1]<;>with_reducible rfl));(·simp only [go_sem]<;>with_reducible rfl))|(refine aC_condF ?_ ?_;(·simp (disch:=omega) only [go_sem,seval,decide_true,decide_false,not_false_eq_true,hb2,hb1]))|(apply aL_pK cxG (hTk);(iterate 2 (·simp (disch:=omega) only [go_sem,seval,decide_true,decide_false,not_false_eq_true,hb2,hb1]<;>with_reducible rfl));(·simp only [go_sem]<;>with_reducible rfl);(·simp))|(apply aL_pK cxG (q0);(iterate 2 (·simp (disch:=omega) only [go_sem,seval,decide_true,decide_false,not_false_eq_true,hb2,hb1]<;>with_reducible rfl));(·simp only [go_sem]<;>with_reducible rfl);(·simp))|fail)
     all_goals first|exact ⟨rfl,rfl⟩|trivial|omega|skip
   ·simp [belS,belB,belF,bel,bels,bels_append',bels_bytes',bels_dgs,bels_wl,bels_sts,bels_suC,bels_scC,belT,Nat.blt]
   ·intro Lx hLx
    simp only [List.cons_append,List.nil_append]
    clear hbk
    repeat' (first|refine aC_seq ?_|refine thenQ_normal ?_|refine blockQ_normal ?_|fail)
    refine aC_regB (U:=[(some 99,some 97)]) rfl [(some 96,4)] ?_
    repeat' (first|refine aLB_nil ?_|(apply aLB_step;(·exact True.intro);(·exact (by intro h;cases h));(·rfl);(·simp (disch:=omega) only [go_sem,seval,hm]);(·simp (disch:=omega) only [go_sem,seval,hm]<;>with_reducible rfl);(·simp only [go_sem]<;>with_reducible rfl);(·(intro b hb;first|(cases hb;done)|(simp (disch:=omega) only [loadBox,go_sem,seval] at hb;(try injection hb with hb);subst hb;simp))))|(apply aLB_write;(·exact True.intro);(·rfl);(·rfl);(·simp (disch:=omega) only [go_sem,seval,hm]);(·simp (disch:=omega) only [go_sem,seval,hm]<;>with_reducible rfl);(·simp only [go_sem]<;>with_reducible rfl);(·simp))|(apply aLB_pure cxG (t1);(case hg=>(simp (disch:=omega) only [go_sem,seval,hm]));(case hx=>(simp (disch:=omega) only [go_sem,seval,hm]<;>with_reducible rfl));(case ha=>(simp (disch:=omega) only [go_sem,seval,hm]<;>with_reducible rfl));(case he=>(simp only [go_sem]<;>with_reducible rfl));(case hcl=>(simp));(case hf=>(simp only [go_sem]<;>with_reducible rfl)))|(apply aLB_pure cxG (t2);(case hg=>(simp (disch:=omega) only [go_sem,seval,hm]));(case hx=>(simp (disch:=omega) only [go_sem,seval,hm]<;>with_reducible rfl));(case ha=>(simp (disch:=omega) only [go_sem,seval,hm]<;>with_reducible rfl));(case he=>(simp only [go_sem]<;>with_reducible rfl));(case hcl=>(simp));(case hf=>(simp only [go_sem]<;>with_reducible rfl)))|(apply aLB_pure cxG (s3);(case hg=>(simp (disch:=omega) only [go_sem,seval,hm]));(case hx=>(simp (disch:=omega) only [go_sem,seval,hm]<;>with_reducible rfl));(case ha=>(simp (disch:=omega) only [go_sem,seval,hm]<;>with_reducible rfl));(case he=>(simp only [go_sem]<;>with_reducible rfl));(case hcl=>(simp));(case hf=>(simp only [go_sem]<;>with_reducible rfl)))|fail)
    repeat' (first|refine aC_ret ?_|refine thenQ_normal ?_|fail)
    all_goals try (first|exact True.intro|exact not_false|omega|(simp (disch:=omega) only [go_sem,seval]<;>omega))
    all_goals try (simp (disch:=omega) only [go_sem,seval])
    all_goals try simp
theorem law_back (s:Su) (nd ne ns:Bool) (l:List (Sp × Bool)) (h:ScW s l) (text:List UInt8) (ht2:text.length≤9223372036854775807) :
  APure cx 7 [.agg (scC s nd ne l ns),.str text] (.bool true):=by
 by_cases ht:20000<text.length
 ·exact law_back_B s nd ne ns l h text ht ht2
 ·obtain ⟨L,rest,_,hL,hr,hj⟩:=jn_lines text.length text (Nat.le_refl _)
  have hsz:=jn_sizes L rest
  rw [← hj] at hsz
  have hx:∀ x∈L,x.length≤100000:=fun x hx=>by have:=hsz.1 x hx;omega
  have h1:=script_Parse text L rest (by omega) hx hL hr hj
  rcases parR_cases L rest with ⟨n,hn,e⟩|⟨p,hp,hre,h3,e⟩
  ·rw [e] at h1
   exact law_back_A4 s nd ne ns l h text (by omega) p0 p0_ok.su.m32 n h1
  ·rw [e] at h1
   obtain ⟨c1,c2,c3⟩:=read_lines hp h3
   have hpo:=(preP_ok hp).1
   have hq:∀ q∈stl p.l,MayS q.1∧q.1.Ok:=fun q hq=>by
    obtain ⟨st,hst,rfl⟩:=List.mem_map.1 hq
    exact c2 st hst
   have hte:scT p.s (stl p.l)=text:=by rw [scT_jn,c3,hj,hre]
   have t1:=script_Text_ok p.s hpo.su p.s.d.isEmpty p.s.e.isEmpty p.l.isEmpty (stl p.l) (fun q hq'=>(hq q hq').2) (by rw [length_stl];exact hpo.l6) c1 (fun q hq'=>(hq q hq').1)
   rw [hte,if_neg (by omega)] at t1
   exact law_back_A0 s nd ne ns l h text (by omega) p hpo.su.m32 h1 t1
end
end Go.Am
end
