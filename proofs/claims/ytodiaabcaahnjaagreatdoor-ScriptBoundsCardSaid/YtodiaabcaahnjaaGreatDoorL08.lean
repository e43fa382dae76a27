/- call.untext: the call of a text, by the table. -/
import Derived.Test.YtodiaabcaahnjaaGreatDoorL06
import Derived.Test.YtodiaabcaahnjaaGreatDoorP06
set_option linter.unusedVariables false
set_option linter.unusedSimpArgs false
section
namespace Go.Am
open Go Go.Proofs
set_option maxHeartbeats 8000000
set_option maxRecDepth 100000
section
attribute [local irreducible] aC aL thenQ blockQ scopeQ ALoop AWp
theorem aStep_rangeS (C:Cx) (g:Nat→AVal) (S:St) {t:TypeId} {x:Operand}:aStep C (.range t x) g S=aRange C S t (aEval C g x):=rfl
theorem tbl_mem {e:AVal × AVal} (h:e∈TABLE):∃ op:Int,(1≤op∧op≤21)∧e=(.int .i64 op,.agg [.str (cnm op),.int .i64 (car op:Nat)]):=by
 unfold TABLE at h
 simp only [List.mem_cons,List.not_mem_nil,or_false] at h
 rcases h with h|h|h|h|h|h|h|h|h|h|h|h|h|h|h|h|h|h|h|h|h<;>subst h
 ·exact ⟨1,by decide,rfl⟩
 ·exact ⟨2,by decide,rfl⟩
 ·exact ⟨3,by decide,rfl⟩
 ·exact ⟨4,by decide,rfl⟩
 ·exact ⟨5,by decide,rfl⟩
 ·exact ⟨6,by decide,rfl⟩
 ·exact ⟨7,by decide,rfl⟩
 ·exact ⟨8,by decide,rfl⟩
 ·exact ⟨9,by decide,rfl⟩
 ·exact ⟨10,by decide,rfl⟩
 ·exact ⟨11,by decide,rfl⟩
 ·exact ⟨12,by decide,rfl⟩
 ·exact ⟨13,by decide,rfl⟩
 ·exact ⟨14,by decide,rfl⟩
 ·exact ⟨15,by decide,rfl⟩
 ·exact ⟨16,by decide,rfl⟩
 ·exact ⟨17,by decide,rfl⟩
 ·exact ⟨18,by decide,rfl⟩
 ·exact ⟨19,by decide,rfl⟩
 ·exact ⟨20,by decide,rfl⟩
 ·exact ⟨21,by decide,rfl⟩
theorem tbl_has {op:Int} (h:1≤op∧op≤21):((.int .i64 op,.agg [.str (cnm op),.int .i64 (car op:Nat)]):AVal × AVal)∈TABLE:=by
 have hf:∀ i:Fin 21,(TABLE[i.val]?).isSome=true:=by decide +kernel
 rcases op_cases op with (rfl|rfl|rfl|rfl|rfl|rfl|rfl|rfl|rfl|rfl|rfl|rfl|rfl|rfl|rfl|rfl|rfl|rfl|rfl|rfl|rfl)|h'
 iterate 21 (simp only [TABLE,cm,cnm,car,OPS,List.mem_cons];simp)
 omega
def prs (wr:List (List UInt8)):List Nat:=wr.map fun x=>(puP x).getD 0
def argsK (wr:List (List UInt8)) (k:Nat):List Nat:=(prs wr).take k++List.replicate (6-k) 0
theorem argsK_len (wr:List (List UInt8)) (k:Nat) (h:k≤wr.length) (h6:k≤6):(argsK wr k).length=6:=by simp [argsK,prs];omega
theorem argsK_succ (wr:List (List UInt8)) (k:Nat) (h:k<wr.length) (h6:k<6):(argsK wr k).set k ((puP wr[k]).getD 0)=argsK wr (k+1):=by
 have hl:k<(prs wr).length:=by simp [prs];exact h
 unfold argsK
 rw [List.set_append_right _ _ (by rw [List.length_take];omega),List.take_succ_eq_append_getElem hl]
 obtain ⟨m,hm⟩ : ∃ m,6-k=m+1:=⟨5-k,by omega⟩
 rw [hm,List.replicate_succ,show 6-(k+1)=m by omega]
 have:k-((prs wr).take k).length=0:=by simp;omega
 rw [this]
 simp [prs]
theorem argsK_lt (wr:List (List UInt8)) (k:Nat):∀ x∈argsK wr k,x<18446744073709551616:=by
 intro x hx
 unfold argsK at hx
 rcases List.mem_append.1 hx with h|h
 ·have:=List.mem_of_mem_take h
  unfold prs at this
  obtain ⟨y,_,rfl⟩:=List.mem_map.1 this
  cases hp:puP y with
  |none=>simp
  |some v=>simpa using puP_lt hp
 ·rw [(List.mem_replicate.1 h).2];decide
theorem untext_miss (s:List UInt8) (hs:s.length≤1048576) (w0:List UInt8) (wr:List (List UInt8)) (hw:parts s [32]=w0::wr) (hwl:wr.length≤1048576) (hm:∀ op:Int,1≤op∧op≤21→¬ (cnm op=w0∧wr.length=car op)) :
  ACall cx 68 [.str s,.map 0] [.mpx TABLE 21] (.tup [.agg [.int .i64 0,.int .u64 0,.int .u64 0,.int .u64 0,.int .u64 0,.int .u64 0,.int .u64 0],.bool false]) [.mpx TABLE 21]:=by
 have hsp:=a_split s [32] (by omega) (by decide)
 rw [hw] at hsp
 simp only [List.map_cons] at hsp
 have hml:maxLen=9223372036854775807:=rfl
 have key:ACall cx 68 [.str s,.map 0] [.mpx TABLE 21] (.tup [.agg [.int .i64 0,.int .u64 0,.int .u64 0,.int .u64 0,.int .u64 0,.int .u64 0,.int .u64 0],.bool false])
   [.mpx TABLE 21,.cells [.int .i64 0,.int .u64 0,.int .u64 0,.int .u64 0,.int .u64 0,.int .u64 0,.int .u64 0] 28,.frz none]:=by
  refine acall_fnK cxOk Tryz.func68 (fun _=>false) (fe68.q) (by kernel_rfl) (by dsimp only [Tryz.f68,go_sem,seval,liteO,Option.map,List.map];exact .mk _) ?_
  dsimp only [Tryz.f68,frame0,List.zipIdx,List.map,Nat.reduceAdd]
  try simp only [List.getElem?_toArray,List.getElem?_cons_succ,List.getElem?_cons_zero,Option.bind_some]
  repeat' (first|refine aC_seq ?_|refine aC_reg rfl ?_|refine aC_block ?_|refine aC_loop ?_|refine thenQ_normal ?_|refine aL_nil ?_|(apply aL_step;(·exact True.intro);(iterate 2 (·simp (disch:=omega) only [go_sem,seval,aStep_rangeS,aRange]<;>with_reducible rfl));(·simp only [go_sem]<;>with_reducible rfl))|(apply aL_pK cxG (hsp);(iterate 2 (·simp (disch:=omega) only [go_sem,seval,aStep_rangeS,aRange]<;>with_reducible rfl));(·simp only [go_sem]<;>with_reducible rfl);(·simp))|fail)
  ·refine any_rule (k:=2) (mi:=0) (since:=21) (last:=21) (clock:=21) (z:=.mpx TABLE 21) (ps:=TABLE) (fr0:=[(6,.sl 1 false (.str w0::wr.map .str) .full),(17,.ptr 2 0),(4,.ptr 1 0),(0,.str s),(1,.map 0)])
    (Sf:=[.frz (some TABLE),.cells [.int .i64 0,.int .u64 0,.int .u64 0,.int .u64 0,.int .u64 0,.int .u64 0,.int .u64 0] 28,.frz none]) (cxOk.wp _ _) (cxG.wp _ _) (fun _=>true) none (by intro k hk;injection hk with hk;subst hk;decide) (by intro k hk;injection hk with hk;subst hk;decide)
    (Sub.of_all (by simp [Fr.get])) rfl rfl rfl (.inl rfl) (by decide) rfl (by kernel_rfl) (by kernel_rfl) (by simp [belF,bel,bels,bels_str,belT,Nat.blt]) ?hD (.inl rfl) ?hr (fun _ _ _ h=>by cases h)
   case hD =>
    repeat' (first|refine aL_nil ?_|(apply aL_step;(·exact True.intro);(iterate 2 (·simp (disch:=omega) only [go_sem,seval]<;>with_reducible rfl));(·simp only [go_sem]<;>with_reducible rfl))|fail)
    all_goals try trivial
    refine ⟨rfl,rfl,fun _=>?_⟩
    repeat' (first|refine aC_seq ?_|refine aC_reg rfl ?_|refine aC_ret ?_|refine thenQ_normal ?_|refine blockQ_hit ?_|refine aL_nil ?_|(apply aL_step;(·exact True.intro);(iterate 2 (·simp (disch:=omega) only [go_sem,seval]<;>with_reducible rfl));(·simp only [go_sem]<;>with_reducible rfl))|fail)
    all_goals try (first|exact True.intro|exact not_false|omega|(simp (disch:=omega) only [go_sem,seval]<;>omega))
    all_goals try (simp (disch:=omega) only [go_sem,seval])
    all_goals try simp
   case hr =>
    intro e he
    obtain ⟨op,ho,rfl⟩:=tbl_mem he
    have hmo:=hm op ho
    have hc:=car_le op
    repeat' (first|refine aL_nil ?_|(apply aL_step;(·exact True.intro);(iterate 2 (·simp (disch:=omega) only [go_sem,seval]<;>with_reducible rfl));(·simp only [go_sem]<;>with_reducible rfl))|fail)
    all_goals try trivial
    refine ⟨rfl,rfl,rfl,?_⟩
    generalize cnm op=w at hmo ⊢
    generalize car op=p at hmo hc ⊢
    repeat' (first|refine aL_nil ?_|(apply aL_step;(·exact True.intro);(iterate 2 (·simp (disch:=omega) only [go_sem,seval]<;>with_reducible rfl));(·simp only [go_sem]<;>with_reducible rfl))|fail)
    all_goals try trivial
    refine ⟨.ext 1,[(6,.sl 1 false (.str w0::wr.map .str) .full),(17,.ptr 2 0),(4,.ptr 1 0),(0,.str s),(1,.map 0)],[.frz (some TABLE),.cells [.int .i64 0,.int .u64 0,.int .u64 0,.int .u64 0,.int .u64 0,.int .u64 0,.int .u64 0] 28,.frz none,.cells [.str w,.int .i64 (p:Nat)] 155],?_,.inl ⟨rfl,.inr rfl,rfl,fun _=>.inr rfl⟩⟩
    by_cases hw0:w=w0
    ·have hne:wr.length≠p:=fun h=>hmo ⟨hw0,h⟩
     have hb:(w==w0)=true:=by simp [hw0]
     subst hw0
     repeat' (first|refine aC_seq ?_|refine aC_reg rfl ?_|refine aC_exit ?_|refine thenQ_normal ?_|refine thenQ_exit ?_|refine aL_nil ?_|(apply aL_step;(·exact True.intro);(iterate 2 (·simp (disch:=omega) only [go_sem,seval,hb,beq_self_eq_true,bne_self_eq_false,decide_true,decide_false,not_true_eq_false,not_false_eq_true]<;>with_reducible rfl));(·simp only [go_sem]<;>with_reducible rfl))|(refine aC_condP (by simp (disch:=omega) only [go_sem,seval,hb,beq_self_eq_true,bne_self_eq_false,decide_true,decide_false,not_true_eq_false,not_false_eq_true]<;>with_reducible rfl) ?_ ?_<;>(intro h;first|(exfalso;omega)|skip))|fail)
     all_goals try (first|exact True.intro|exact not_false|omega|(simp (disch:=omega) only [go_sem,seval]<;>omega))
     all_goals first|exact not_false|exact ⟨rfl,Sub.of_all (by simp [Fr.get]),rfl⟩
    ·have hb:(w==w0)=false:=by simp [hw0]
     repeat' (first|refine aC_seq ?_|refine aC_reg rfl ?_|refine aC_exit ?_|refine thenQ_normal ?_|refine thenQ_exit ?_|refine aL_nil ?_|(apply aL_step;(·exact True.intro);(iterate 2 (·simp (disch:=omega) only [go_sem,seval,hb,hw0,decide_true,decide_false,not_true_eq_false,not_false_eq_true]<;>with_reducible rfl));(·simp only [go_sem]<;>with_reducible rfl))|(refine aL_skip ?_ (by simp only [go_sem]<;>with_reducible rfl) ?_;(·simp (disch:=omega) only [go_sem,seval,hb,hw0,decide_true,decide_false,not_true_eq_false,not_false_eq_true]))|(refine aC_condT ?_ ?_;(·simp (disch:=omega) only [go_sem,seval,hb,hw0,decide_true,decide_false,not_true_eq_false,not_false_eq_true]))|fail)
     all_goals try (first|exact True.intro|exact not_false|omega|(simp (disch:=omega) only [go_sem,seval]<;>omega))
     all_goals first|exact not_false|exact ⟨rfl,Sub.of_all (by simp [Fr.get]),rfl⟩
  all_goals try (first|exact True.intro|exact not_false|omega|(simp (disch:=omega) only [go_sem,seval]<;>omega))
 exact ACall.drop cxG key (n:=1) (by simp) rfl (by kernel_rfl)
theorem untext_hit (s:List UInt8) (hs:s.length≤1048576) (op0:Int) (ho0:1≤op0∧op0≤21) (wr:List (List UInt8)) (hw:parts s [32]=cnm op0::wr) (hwl:wr.length=car op0) (hwp:∀ x∈wr,x.length≤1048576) (hyes:∀ k (h:k<wr.length),∃ v,puP wr[k]=some v) (acc:Bool) (hacc:acc=decide (ctx op0 (argsK wr wr.length)=s)) :
  ACall cx 68 [.str s,.map 0] [.mpx TABLE 21] (.tup [.agg (.int .i64 op0::wl (argsK wr wr.length)),.bool acc]) [.mpx TABLE 21]:=by
 have hsp:=a_split s [32] (by omega) (by decide)
 rw [hw] at hsp
 simp only [List.map_cons] at hsp
 have hml:maxLen=9223372036854775807:=rfl
 have hp3:=car_le op0
 have key:ACall cx 68 [.str s,.map 0] [.mpx TABLE 21] (.tup [.agg (.int .i64 op0::wl (argsK wr wr.length)),.bool acc])
   [.mpx TABLE 21,.cells (.int .i64 op0::wl (argsK wr wr.length)) 28,.frz none,.cells [.str (cnm op0),.int .i64 (car op0:Nat)] 155,.cells (.int .i64 op0::wl (argsK wr wr.length)) 28]:=by
  refine acall_fnK cxOk Tryz.func68 (fun _=>false) (fe68.q) (by kernel_rfl) (by dsimp only [Tryz.f68,go_sem,seval,liteO,Option.map,List.map];exact .mk _) ?_
  dsimp only [Tryz.f68,frame0,List.zipIdx,List.map,Nat.reduceAdd]
  try simp only [List.getElem?_toArray,List.getElem?_cons_succ,List.getElem?_cons_zero,Option.bind_some]
  repeat' (first|refine aC_seq ?_|refine aC_reg rfl ?_|refine aC_block ?_|refine aC_loop ?_|refine thenQ_normal ?_|refine aL_nil ?_|(apply aL_step;(·exact True.intro);(iterate 2 (·simp (disch:=omega) only [go_sem,seval,aStep_rangeS,aRange]<;>with_reducible rfl));(·simp only [go_sem]<;>with_reducible rfl))|(apply aL_pK cxG (hsp);(iterate 2 (·simp (disch:=omega) only [go_sem,seval,aStep_rangeS,aRange]<;>with_reducible rfl));(·simp only [go_sem]<;>with_reducible rfl);(·simp))|fail)
  ·refine any_rule (k:=2) (mi:=0) (since:=21) (last:=21) (clock:=21) (z:=.mpx TABLE 21) (ps:=TABLE) (fr0:=[(6,.sl 1 false (.str (cnm op0)::wr.map .str) .full),(17,.ptr 2 0),(4,.ptr 1 0),(0,.str s),(1,.map 0)])
    (Sf:=[.frz (some TABLE),.cells [.int .i64 0,.int .u64 0,.int .u64 0,.int .u64 0,.int .u64 0,.int .u64 0,.int .u64 0] 28,.frz none]) (cxOk.wp _ _) (cxG.wp _ _) (fun e=>@decide (e.1 ≠ .int .i64 op0) (Classical.propDecidable _))
    (some (.ret,[(5,.bool acc),(4,.ptr 1 0)],[.frz (some TABLE),.cells (.int .i64 op0::wl (argsK wr wr.length)) 28,.frz none,.cells [.str (cnm op0),.int .i64 (car op0:Nat)] 155,.cells (.int .i64 op0::wl (argsK wr wr.length)) 28]))
    (by intro k hk;injection hk with hk;subst hk;decide) (by intro k hk;injection hk with hk;subst hk;decide)
    (Sub.of_all (by simp [Fr.get])) rfl rfl rfl (.inl rfl) (by decide) rfl (by kernel_rfl) (by kernel_rfl) (by simp [belF,bel,bels,bels_str,belT,Nat.blt]) ?hD (.inr ⟨_,tbl_has ho0,by simp⟩) ?hr ?hf
   case hD =>
    repeat' (first|refine aL_nil ?_|(apply aL_step;(·exact True.intro);(iterate 2 (·simp (disch:=omega) only [go_sem,seval]<;>with_reducible rfl));(·simp only [go_sem]<;>with_reducible rfl))|fail)
    all_goals try trivial
    exact ⟨rfl,rfl,fun h=>by cases h⟩
   case hf =>
    intro x f T h
    injection h with h
    simp only [Prod.mk.injEq] at h
    obtain ⟨rfl,rfl,rfl⟩:=h
    simp only [XE.ex]
    repeat' (first|refine thenQ_ret ?_|refine blockQ_ret ?_|fail)
    all_goals try (first|exact True.intro|exact not_false|omega|(simp (disch:=omega) only [go_sem,seval]<;>omega))
    all_goals try (simp (disch:=omega) only [go_sem,seval])
    all_goals try simp
    all_goals (have hk6:=argsK_len wr wr.length (Nat.le_refl _) (by omega);exact ⟨by omega,wl_take6 hk6⟩)
   case hr =>
    intro e he
    obtain ⟨op,ho,rfl⟩:=tbl_mem he
    by_cases hop:op=op0
    ·subst hop
     have hak:=argsK_len wr wr.length (Nat.le_refl _) (by omega)
     have htx:=call_textF (.cells [.int .i64 0,.int .u64 0,.int .u64 0,.int .u64 0,.int .u64 0,.int .u64 0,.int .u64 0] 28) (.frz none) (.cells [.str (cnm op),.int .i64 (car op:Nat)] 155) (.cells (.int .i64 op::wl (argsK wr wr.length)) 28) op (argsK wr wr.length) hak (argsK_lt wr wr.length) (by simp [belS,belB,bel,bels,bels_wl];kernel_rfl)
     generalize ctx op (argsK wr wr.length)=X at *
     clear he hw
     generalize cnm op=w at *
     generalize car op=p at hwl hp3 htx ⊢
     repeat' (first|refine aL_nil ?_|(apply aL_step;(·exact True.intro);(iterate 2 (·simp (disch:=omega) only [go_sem,seval]<;>with_reducible rfl));(·simp only [go_sem]<;>with_reducible rfl))|fail)
     all_goals try trivial
     refine ⟨rfl,rfl,rfl,?_⟩
     repeat' (first|refine aL_nil ?_|(apply aL_step;(·exact True.intro);(iterate 2 (·simp (disch:=omega) only [go_sem,seval]<;>with_reducible rfl));(·simp only [go_sem]<;>with_reducible rfl))|fail)
     all_goals try trivial
     refine ⟨.ret,[(5,.bool acc),(4,.ptr 1 0)],[.frz (some TABLE),.cells (.int .i64 op::wl (argsK wr wr.length)) 28,.frz none,.cells [.str w,.int .i64 (p:Nat)] 155,.cells (.int .i64 op::wl (argsK wr wr.length)) 28],?_,.inr ⟨by simp,(fun h=>by cases h),(fun h=>by cases h),rfl⟩⟩
     have hb:(w==w)=true:=by simp
     have hwl':(wr.length:Int)=(p:Int):=by omega
     have hlm:(wr.map AVal.str).length=p:=by rw [List.length_map];exact hwl
     repeat' (first|refine aC_seq ?_|refine aC_reg rfl ?_|refine aC_block ?_|refine aC_skip ?_|refine aC_loop ?_|refine thenQ_normal ?_|refine aL_nil ?_|(apply aL_step;(·exact True.intro);(iterate 2 (·simp (disch:=omega) only [go_sem,seval,hb,hlm,aStep_rangeS,aRange]<;>with_reducible rfl));(·simp only [go_sem]<;>with_reducible rfl))|(refine aC_condP (by simp (disch:=omega) only [go_sem,seval,hb,hlm,aStep_rangeS,aRange]<;>with_reducible rfl) ?_ ?_<;>(intro h;first|(exfalso;omega)|skip))|fail)
     all_goals try trivial
     ·refine loop_rule (cxOk.wp _ _) (σ:=Nat) (fun k=>[(42,.int .i64 k),(41,.int .i64 p),(40,.sl 1 false (wr.map .str) .any),(9,.ptr 4 0),(8,.ptr 3 0),(7,.int .i64 op),(4,.ptr 1 0),(0,.str s),(1,.map 0)])
       (fun k=>[.frz (some TABLE),.cells [.int .i64 0,.int .u64 0,.int .u64 0,.int .u64 0,.int .u64 0,.int .u64 0,.int .u64 0] 28,.frz none,.cells [.str w,.int .i64 (p:Nat)] 155,.cells (.int .i64 op::wl (argsK wr k)) 28])
       (fun k=>p-k) (fun k=>k≤p) 0 (GStep.refl _ _) ⟨Nat.zero_le _,Sub.of_all (by simp [Fr.get]),by simp [argsK,wl]⟩ ?_
      intro k hk
      by_cases hlt:k<p
      ·have hlw:k<wr.length:=by omega
       have hx:=hwp wr[k] (List.getElem_mem hlw)
       have hak:=argsK_len wr k (by omega) (by omega)
       have has:=argsK_succ wr k hlw (by omega)
       obtain ⟨v,hv⟩:=hyes k hlw
       have hpu:=a_parseU wr[k] hx
       rcases hpu with ⟨v',hv',hpu⟩|⟨hv',_⟩
       case inr=>rw [hv] at hv';cases hv'
       rw [hv] at hv'
       injection hv' with hv'
       subst hv'
       rw [hv] at has
       simp only [Option.getD_some] at has
       have eg:(wr.map AVal.str).getD (k:Int).toNat .any = .str wr[k]:=by
        rw [Int.toNat_natCast]
        simp [List.getD,hlw]
       have eg':(wr.map AVal.str).getD k .any = .str wr[k]:=by simp [List.getD,hlw]
       generalize wr[k]=y at *
       generalize argsK wr k=A at *
       repeat' (first|refine aC_seq ?_|refine aC_reg rfl ?_|refine aC_block ?_|refine aC_skip ?_|refine thenQ_normal ?_|refine blockQ_normal ?_|refine aL_nil ?_|(apply aL_step;(·exact True.intro);(iterate 2 (·simp (disch:=omega) only [go_sem,seval,eg,eg',hlm,has]<;>with_reducible rfl));(·simp only [go_sem]<;>with_reducible rfl))|(refine aC_condF ?_ ?_;(·simp (disch:=omega) only [go_sem,seval,eg,eg',hlm,has]))|(refine aC_condP (by simp (disch:=omega) only [go_sem,seval,eg,eg',hlm,has]<;>with_reducible rfl) ?_ ?_<;>(intro h;first|(exfalso;omega)|skip))|(apply aL_pK cxG (hpu);(iterate 2 (·simp (disch:=omega) only [go_sem,seval,eg,eg',hlm,has]<;>with_reducible rfl));(·simp only [go_sem]<;>with_reducible rfl);(·simp))|fail)
       all_goals try (first|exact True.intro|exact not_false|omega|(simp (disch:=omega) only [go_sem,seval]<;>omega))
       all_goals first|exact not_false|(simp (disch:=omega) only [go_sem,seval,eg];done)|exact ⟨k+1,by omega,Sub.of_all (by simp [Fr.get]),by simp [has],by omega⟩|omega|exact ⟨_,_,rfl,rfl⟩
      ·have hk2:k=p:=by omega
       subst hk2
       rw [← hwl]
       rw [← hwl] at htx
       clear hyes
       generalize argsK wr wr.length=A at *
       repeat' (first|refine aC_seq ?_|refine aC_reg rfl ?_|refine aC_exit ?_|refine thenQ_normal ?_|refine thenQ_exit ?_|refine blockQ_hit ?_|refine aL_nil ?_|(apply aL_step;(·exact True.intro);(iterate 2 (·simp (disch:=omega) only [go_sem,seval]<;>with_reducible rfl));(·simp only [go_sem]<;>with_reducible rfl))|(refine aC_condP (by simp (disch:=omega) only [go_sem,seval]<;>with_reducible rfl) ?_ ?_<;>(intro h;first|(exfalso;omega)|skip))|fail)
       all_goals try trivial
       refine aC_regB (U:=[(some 60,some 63)]) rfl [(some 60,4),(some 61,4)] ?_
       repeat' (first|refine aLB_nil ?_|(apply aLB_step;(·exact True.intro);(·exact (by intro h;cases h));(·rfl);(·simp (disch:=omega) only [go_sem,seval]);(·simp (disch:=omega) only [go_sem,seval]<;>with_reducible rfl);(·simp only [go_sem]<;>with_reducible rfl);(·(intro b hb;first|(cases hb;done)|(simp (disch:=omega) only [loadBox,go_sem,seval] at hb;(try injection hb with hb);subst hb;simp))))|(apply aLB_write;(·exact True.intro);(·rfl);(·rfl);(·simp (disch:=omega) only [go_sem,seval]);(·simp (disch:=omega) only [go_sem,seval]<;>with_reducible rfl);(·simp only [go_sem]<;>with_reducible rfl);(·simp))|(apply aLB_acall (htx);(case hg=>(simp (disch:=omega) only [go_sem,seval]));(case hx=>(simp (disch:=omega) only [go_sem,seval]<;>with_reducible rfl));(case ha=>(simp (disch:=omega) only [go_sem,seval]<;>with_reducible rfl));(case he=>(with_reducible rfl));(case hp=>(rfl));(case hf=>(simp only [go_sem]<;>with_reducible rfl));(case hk=>(simp)))|fail)
       repeat' (first|refine aC_ret ?_|refine thenQ_normal ?_|fail)
       all_goals try (first|exact True.intro|exact not_false|omega|(simp (disch:=omega) only [go_sem,seval]<;>omega))
       all_goals first|exact not_false|exact ⟨rfl,Sub.of_all (by simp [Fr.get,hacc]),rfl⟩|(simp [hak];done)|omega|simp
     all_goals first|exact not_false|omega|simp
    ·have hne:cnm op≠cnm op0:=fun h=>hop (cnm_inj ho ho0 h)
     have hb:(cnm op==cnm op0)=false:=by simp [hne]
     generalize cnm op=w at *
     generalize car op=p at *
     repeat' (first|refine aL_nil ?_|(apply aL_step;(·exact True.intro);(iterate 2 (·simp (disch:=omega) only [go_sem,seval]<;>with_reducible rfl));(·simp only [go_sem]<;>with_reducible rfl))|fail)
     all_goals try trivial
     refine ⟨rfl,rfl,rfl,?_⟩
     repeat' (first|refine aL_nil ?_|(apply aL_step;(·exact True.intro);(iterate 2 (·simp (disch:=omega) only [go_sem,seval]<;>with_reducible rfl));(·simp only [go_sem]<;>with_reducible rfl))|fail)
     all_goals try trivial
     refine ⟨.ext 1,[(6,.sl 1 false (.str (cnm op0)::wr.map .str) .full),(17,.ptr 2 0),(4,.ptr 1 0),(0,.str s),(1,.map 0)],[.frz (some TABLE),.cells [.int .i64 0,.int .u64 0,.int .u64 0,.int .u64 0,.int .u64 0,.int .u64 0,.int .u64 0] 28,.frz none,.cells [.str w,.int .i64 (p:Nat)] 155],?_,.inl ⟨by simp [hop],.inr rfl,rfl,fun _=>.inr rfl⟩⟩
     repeat' (first|refine aC_seq ?_|refine aC_reg rfl ?_|refine aC_exit ?_|refine thenQ_normal ?_|refine thenQ_exit ?_|refine aL_nil ?_|(apply aL_step;(·exact True.intro);(iterate 2 (·simp (disch:=omega) only [go_sem,seval,hb,hne,decide_true,decide_false,not_true_eq_false,not_false_eq_true]<;>with_reducible rfl));(·simp only [go_sem]<;>with_reducible rfl))|(refine aL_skip ?_ (by simp only [go_sem]<;>with_reducible rfl) ?_;(·simp (disch:=omega) only [go_sem,seval,hb,hne,decide_true,decide_false,not_true_eq_false,not_false_eq_true]))|(refine aC_condT ?_ ?_;(·simp (disch:=omega) only [go_sem,seval,hb,hne,decide_true,decide_false,not_true_eq_false,not_false_eq_true]))|fail)
     all_goals try (first|exact True.intro|exact not_false|omega|(simp (disch:=omega) only [go_sem,seval]<;>omega))
     all_goals first|exact not_false|exact ⟨rfl,Sub.of_all (by simp [Fr.get]),rfl⟩
  all_goals try (first|exact True.intro|exact not_false|omega|(simp (disch:=omega) only [go_sem,seval]<;>omega))
 exact ACall.drop cxG key (n:=1) (by simp) (by simp [bel,bels,bels_wl]) (by kernel_rfl)
theorem untext_bad (s:List UInt8) (hs:s.length≤1048576) (op0:Int) (ho0:1≤op0∧op0≤21) (wr:List (List UInt8)) (hw:parts s [32]=cnm op0::wr) (hwl:wr.length=car op0) (hwp:∀ x∈wr,x.length≤1048576) (j:Nat) (hj:j<wr.length) (hbad:puP wr[j]=none) (hyes:∀ k (h:k<j),∃ v,puP (wr.getD k [])=some v) :
  ACall cx 68 [.str s,.map 0] [.mpx TABLE 21] (.tup [.agg ([.int .i64 0,.int .u64 0,.int .u64 0,.int .u64 0,.int .u64 0,.int .u64 0,.int .u64 0]),.bool false]) [.mpx TABLE 21]:=by
 have hsp:=a_split s [32] (by omega) (by decide)
 rw [hw] at hsp
 simp only [List.map_cons] at hsp
 have hml:maxLen=9223372036854775807:=rfl
 have hp3:=car_le op0
 have key:ACall cx 68 [.str s,.map 0] [.mpx TABLE 21] (.tup [.agg ([.int .i64 0,.int .u64 0,.int .u64 0,.int .u64 0,.int .u64 0,.int .u64 0,.int .u64 0]),.bool false])
   [.mpx TABLE 21,.cells ([.int .i64 0,.int .u64 0,.int .u64 0,.int .u64 0,.int .u64 0,.int .u64 0,.int .u64 0]) 28,.frz none,.cells [.str (cnm op0),.int .i64 (car op0:Nat)] 155,.cells (.int .i64 op0::wl (argsK wr j)) 28]:=by
  refine acall_fnK cxOk Tryz.func68 (fun _=>false) (fe68.q) (by kernel_rfl) (by dsimp only [Tryz.f68,go_sem,seval,liteO,Option.map,List.map];exact .mk _) ?_
  dsimp only [Tryz.f68,frame0,List.zipIdx,List.map,Nat.reduceAdd]
  try simp only [List.getElem?_toArray,List.getElem?_cons_succ,List.getElem?_cons_zero,Option.bind_some]
  repeat' (first|refine aC_seq ?_|refine aC_reg rfl ?_|refine aC_block ?_|refine aC_loop ?_|refine thenQ_normal ?_|refine aL_nil ?_|(apply aL_step;(·exact True.intro);(iterate 2 (·simp (disch:=omega) only [go_sem,seval,aStep_rangeS,aRange]<;>with_reducible rfl));(·simp only [go_sem]<;>with_reducible rfl))|(apply aL_pK cxG (hsp);(iterate 2 (·simp (disch:=omega) only [go_sem,seval,aStep_rangeS,aRange]<;>with_reducible rfl));(·simp only [go_sem]<;>with_reducible rfl);(·simp))|fail)
  ·refine any_rule (k:=2) (mi:=0) (since:=21) (last:=21) (clock:=21) (z:=.mpx TABLE 21) (ps:=TABLE) (fr0:=[(6,.sl 1 false (.str (cnm op0)::wr.map .str) .full),(17,.ptr 2 0),(4,.ptr 1 0),(0,.str s),(1,.map 0)])
    (Sf:=[.frz (some TABLE),.cells [.int .i64 0,.int .u64 0,.int .u64 0,.int .u64 0,.int .u64 0,.int .u64 0,.int .u64 0] 28,.frz none]) (cxOk.wp _ _) (cxG.wp _ _) (fun e=>@decide (e.1 ≠ .int .i64 op0) (Classical.propDecidable _))
    (some (.ret,[(5,.bool false),(4,.ptr 1 0)],[.frz (some TABLE),.cells ([.int .i64 0,.int .u64 0,.int .u64 0,.int .u64 0,.int .u64 0,.int .u64 0,.int .u64 0]) 28,.frz none,.cells [.str (cnm op0),.int .i64 (car op0:Nat)] 155,.cells (.int .i64 op0::wl (argsK wr j)) 28]))
    (by intro k hk;injection hk with hk;subst hk;decide) (by intro k hk;injection hk with hk;subst hk;decide)
    (Sub.of_all (by simp [Fr.get])) rfl rfl rfl (.inl rfl) (by decide) rfl (by kernel_rfl) (by kernel_rfl) (by simp [belF,bel,bels,bels_str,belT,Nat.blt]) ?hD (.inr ⟨_,tbl_has ho0,by simp⟩) ?hr ?hf
   case hD =>
    repeat' (first|refine aL_nil ?_|(apply aL_step;(·exact True.intro);(iterate 2 (·simp (disch:=omega) only [go_sem,seval]<;>with_reducible rfl));(·simp only [go_sem]<;>with_reducible rfl))|fail)
    all_goals try trivial
    exact ⟨rfl,rfl,fun h=>by cases h⟩
   case hf =>
    intro x f T h
    injection h with h
    simp only [Prod.mk.injEq] at h
    obtain ⟨rfl,rfl,rfl⟩:=h
    simp only [XE.ex]
    repeat' (first|refine thenQ_ret ?_|refine blockQ_ret ?_|fail)
    all_goals try (first|exact True.intro|exact not_false|omega|(simp (disch:=omega) only [go_sem,seval]<;>omega))
    all_goals try (simp (disch:=omega) only [go_sem,seval])
    all_goals try simp
    all_goals first|omega|simp
   case hr =>
    intro e he
    obtain ⟨op,ho,rfl⟩:=tbl_mem he
    by_cases hop:op=op0
    ·subst hop
     have hak:=argsK_len wr j (by omega) (by omega)
     clear he hw
     generalize cnm op=w at *
     generalize car op=p at hwl hp3 ⊢
     repeat' (first|refine aL_nil ?_|(apply aL_step;(·exact True.intro);(iterate 2 (·simp (disch:=omega) only [go_sem,seval]<;>with_reducible rfl));(·simp only [go_sem]<;>with_reducible rfl))|fail)
     all_goals try trivial
     refine ⟨rfl,rfl,rfl,?_⟩
     repeat' (first|refine aL_nil ?_|(apply aL_step;(·exact True.intro);(iterate 2 (·simp (disch:=omega) only [go_sem,seval]<;>with_reducible rfl));(·simp only [go_sem]<;>with_reducible rfl))|fail)
     all_goals try trivial
     refine ⟨.ret,[(5,.bool false),(4,.ptr 1 0)],[.frz (some TABLE),.cells ([.int .i64 0,.int .u64 0,.int .u64 0,.int .u64 0,.int .u64 0,.int .u64 0,.int .u64 0]) 28,.frz none,.cells [.str w,.int .i64 (p:Nat)] 155,.cells (.int .i64 op::wl (argsK wr j)) 28],?_,.inr ⟨by simp,(fun h=>by cases h),(fun h=>by cases h),rfl⟩⟩
     have hb:(w==w)=true:=by simp
     have hwl':(wr.length:Int)=(p:Int):=by omega
     have hlm:(wr.map AVal.str).length=p:=by rw [List.length_map];exact hwl
     repeat' (first|refine aC_seq ?_|refine aC_reg rfl ?_|refine aC_block ?_|refine aC_skip ?_|refine aC_loop ?_|refine thenQ_normal ?_|refine aL_nil ?_|(apply aL_step;(·exact True.intro);(iterate 2 (·simp (disch:=omega) only [go_sem,seval,hb,hlm,aStep_rangeS,aRange]<;>with_reducible rfl));(·simp only [go_sem]<;>with_reducible rfl))|(refine aC_condP (by simp (disch:=omega) only [go_sem,seval,hb,hlm,aStep_rangeS,aRange]<;>with_reducible rfl) ?_ ?_<;>(intro h;first|(exfalso;omega)|skip))|fail)
     all_goals try trivial
     ·refine loop_rule (cxOk.wp _ _) (σ:=Nat) (fun k=>[(42,.int .i64 k),(41,.int .i64 p),(40,.sl 1 false (wr.map .str) .any),(9,.ptr 4 0),(8,.ptr 3 0),(7,.int .i64 op),(4,.ptr 1 0),(0,.str s),(1,.map 0)])
       (fun k=>[.frz (some TABLE),.cells [.int .i64 0,.int .u64 0,.int .u64 0,.int .u64 0,.int .u64 0,.int .u64 0,.int .u64 0] 28,.frz none,.cells [.str w,.int .i64 (p:Nat)] 155,.cells (.int .i64 op::wl (argsK wr k)) 28])
       (fun k=>j-k) (fun k=>k≤j) 0 (GStep.refl _ _) ⟨Nat.zero_le _,Sub.of_all (by simp [Fr.get]),by simp [argsK,wl]⟩ ?_
      intro k hk
      by_cases hlt:k<j
      ·have hlw:k<wr.length:=by omega
       have hx:=hwp wr[k] (List.getElem_mem hlw)
       have hak:=argsK_len wr k (by omega) (by omega)
       have has:=argsK_succ wr k hlw (by omega)
       obtain ⟨v,hv⟩:=hyes k hlt
       rw [show wr.getD k []=wr[k] by simp [List.getD,hlw]] at hv
       have hpu:=a_parseU wr[k] hx
       rcases hpu with ⟨v',hv',hpu⟩|⟨hv',_⟩
       case inr=>rw [hv] at hv';cases hv'
       rw [hv] at hv'
       injection hv' with hv'
       subst hv'
       rw [hv] at has
       simp only [Option.getD_some] at has
       have eg:(wr.map AVal.str).getD (k:Int).toNat .any = .str wr[k]:=by
        rw [Int.toNat_natCast]
        simp [List.getD,hlw]
       have eg':(wr.map AVal.str).getD k .any = .str wr[k]:=by simp [List.getD,hlw]
       generalize wr[k]=y at *
       generalize argsK wr k=A at *
       repeat' (first|refine aC_seq ?_|refine aC_reg rfl ?_|refine aC_block ?_|refine aC_skip ?_|refine thenQ_normal ?_|refine blockQ_normal ?_|refine aL_nil ?_|(apply aL_step;(·exact True.intro);(iterate 2 (·simp (disch:=omega) only [go_sem,seval,eg,eg',hlm,has]<;>with_reducible rfl));(·simp only [go_sem]<;>with_reducible rfl))|(refine aC_condF ?_ ?_;(·simp (disch:=omega) only [go_sem,seval,eg,eg',hlm,has]))|(refine aC_condP (by simp (disch:=omega) only [go_sem,seval,eg,eg',hlm,has]<;>with_reducible rfl) ?_ ?_<;>(intro h;first|(exfalso;omega)|skip))|(apply aL_pK cxG (hpu);(iterate 2 (·simp (disch:=omega) only [go_sem,seval,eg,eg',hlm,has]<;>with_reducible rfl));(·simp only [go_sem]<;>with_reducible rfl);(·simp))|fail)
       all_goals try (first|exact True.intro|exact not_false|omega|(simp (disch:=omega) only [go_sem,seval]<;>omega))
       all_goals first|exact not_false|(simp (disch:=omega) only [go_sem,seval,eg];done)|exact ⟨k+1,by omega,Sub.of_all (by simp [Fr.get]),by simp [has],by omega⟩|omega|exact ⟨_,_,rfl,rfl⟩
      ·have hk2:k=j:=by omega
       subst hk2
       have hlw:k<wr.length:=hj
       have hx:=hwp wr[k] (List.getElem_mem hlw)
       have hak:=argsK_len wr k (by omega) (by omega)
       have hpu:=a_parseU wr[k] hx
       rcases hpu with ⟨v',hv',hpu⟩|⟨hv',nn,tt,hpu⟩
       case inl=>rw [hbad] at hv';cases hv'
       have eg:(wr.map AVal.str).getD (k:Int).toNat .any = .str wr[k]:=by
        rw [Int.toNat_natCast]
        simp [List.getD,hlw]
       have eg':(wr.map AVal.str).getD k .any = .str wr[k]:=by simp [List.getD,hlw]
       clear hyes
       generalize wr[k]=y at *
       generalize argsK wr k=A at *
       repeat' (first|refine aC_seq ?_|refine aC_reg rfl ?_|refine aC_block ?_|refine aC_skip ?_|refine aC_ret ?_|refine thenQ_normal ?_|refine thenQ_ret ?_|refine blockQ_ret ?_|refine aL_nil ?_|(apply aL_step;(·exact True.intro);(iterate 2 (·simp (disch:=omega) only [go_sem,seval,eg,eg',hlm]<;>with_reducible rfl));(·simp only [go_sem]<;>with_reducible rfl))|(refine aC_condT ?_ ?_;(·simp (disch:=omega) only [go_sem,seval,eg,eg',hlm]))|(refine aC_condP (by simp (disch:=omega) only [go_sem,seval,eg,eg',hlm]<;>with_reducible rfl) ?_ ?_<;>(intro h;first|(exfalso;omega)|skip))|(apply aL_pK cxG (hpu);(iterate 2 (·simp (disch:=omega) only [go_sem,seval,eg,eg',hlm]<;>with_reducible rfl));(·simp only [go_sem]<;>with_reducible rfl);(·simp))|fail)
       all_goals try (first|exact True.intro|exact not_false|omega|(simp (disch:=omega) only [go_sem,seval]<;>omega))
       all_goals first|exact not_false|exact ⟨rfl,Sub.of_all (by simp [Fr.get]),rfl⟩|(simp [hak];done)|omega|simp
     all_goals first|exact not_false|omega|simp
    ·have hne:cnm op≠cnm op0:=fun h=>hop (cnm_inj ho ho0 h)
     have hb:(cnm op==cnm op0)=false:=by simp [hne]
     generalize cnm op=w at *
     generalize car op=p at *
     repeat' (first|refine aL_nil ?_|(apply aL_step;(·exact True.intro);(iterate 2 (·simp (disch:=omega) only [go_sem,seval]<;>with_reducible rfl));(·simp only [go_sem]<;>with_reducible rfl))|fail)
     all_goals try trivial
     refine ⟨rfl,rfl,rfl,?_⟩
     repeat' (first|refine aL_nil ?_|(apply aL_step;(·exact True.intro);(iterate 2 (·simp (disch:=omega) only [go_sem,seval]<;>with_reducible rfl));(·simp only [go_sem]<;>with_reducible rfl))|fail)
     all_goals try trivial
     refine ⟨.ext 1,[(6,.sl 1 false (.str (cnm op0)::wr.map .str) .full),(17,.ptr 2 0),(4,.ptr 1 0),(0,.str s),(1,.map 0)],[.frz (some TABLE),.cells [.int .i64 0,.int .u64 0,.int .u64 0,.int .u64 0,.int .u64 0,.int .u64 0,.int .u64 0] 28,.frz none,.cells [.str w,.int .i64 (p:Nat)] 155],?_,.inl ⟨by simp [hop],.inr rfl,rfl,fun _=>.inr rfl⟩⟩
     repeat' (first|refine aC_seq ?_|refine aC_reg rfl ?_|refine aC_exit ?_|refine thenQ_normal ?_|refine thenQ_exit ?_|refine aL_nil ?_|(apply aL_step;(·exact True.intro);(iterate 2 (·simp (disch:=omega) only [go_sem,seval,hb,hne,decide_true,decide_false,not_true_eq_false,not_false_eq_true]<;>with_reducible rfl));(·simp only [go_sem]<;>with_reducible rfl))|(refine aL_skip ?_ (by simp only [go_sem]<;>with_reducible rfl) ?_;(·simp (disch:=omega) only [go_sem,seval,hb,hne,decide_true,decide_false,not_true_eq_false,not_false_eq_true]))|(refine aC_condT ?_ ?_;(·simp (disch:=omega) only [go_sem,seval,hb,hne,decide_true,decide_false,not_true_eq_false,not_false_eq_true]))|fail)
     all_goals try (first|exact True.intro|exact not_false|omega|(simp (disch:=omega) only [go_sem,seval]<;>omega))
     all_goals first|exact not_false|exact ⟨rfl,Sub.of_all (by simp [Fr.get]),rfl⟩
  all_goals try (first|exact True.intro|exact not_false|omega|(simp (disch:=omega) only [go_sem,seval]<;>omega))
 exact ACall.drop cxG key (n:=1) (by simp) (by simp [bel,bels,bels_wl]) (by kernel_rfl)
end
end Go.Am
end
section
namespace Go.Am
open Go Go.Proofs
set_option maxHeartbeats 8000000
set_option maxRecDepth 100000
section
attribute [local irreducible] aC aL thenQ blockQ scopeQ ALoop AWp
def IsCall (s:List UInt8) (op:Int) (xs:List Nat):Prop:=MayC op xs∧xs.length=6∧(∀ x∈xs,x<18446744073709551616)∧ctx op xs=s
theorem parts_tail:∀ (l:List Nat) (w:List UInt8),32 ∉ w→parts (w++l.flatMap fun x=>32::Lib.decDigits x) [32]=w::l.map Lib.decDigits
 |[],w,hw=>by simpa using parts_miss 32 w hw
 |x::l,w,hw=>by
  have hd:(32:UInt8) ∉ Lib.decDigits x:=dec_no x 32 (.inl (by decide))
  rw [List.flatMap_cons,show w++(32::Lib.decDigits x++l.flatMap fun x=>32::Lib.decDigits x)=w++32::(Lib.decDigits x++l.flatMap fun x=>32::Lib.decDigits x) by simp,parts_hit 32 w _ hw,parts_tail l _ hd,List.map_cons]
theorem may_pad {op:Int} {xs:List Nat} (h:MayC op xs) (hx:xs.length=6):xs.take (car op)++List.replicate (6-car op) 0=xs:=by
 have h2:xs.drop (car op)=List.replicate (6-car op) 0:=by
  refine List.eq_replicate_iff.2 ⟨by simp;omega,h.2⟩
 rw [← h2,List.take_append_drop]
theorem call_parts {s:List UInt8} {op:Int} {xs:List Nat} (h:IsCall s op xs):parts s [32]=cnm op::(xs.take (car op)).map Lib.decDigits:=by
 obtain ⟨hm,hx,hw,rfl⟩:=h
 exact parts_tail _ _ (cnm_in hm.1).2.2.1
theorem call_unique {s:List UInt8} {op op':Int} {xs xs':List Nat} (h:IsCall s op xs) (h':IsCall s op' xs'):op=op'∧xs=xs':=by
 have e:=(call_parts h).symm.trans (call_parts h')
 have ho:op=op':=cnm_inj h.1.1 h'.1.1 (List.cons.inj e).1
 subst ho
 refine ⟨rfl,?_⟩
 have e2:=(List.cons.inj e).2
 have inj:∀ (a b:List Nat),(∀ x∈a,x<18446744073709551616)→(∀ x∈b,x<18446744073709551616)→a.map Lib.decDigits=b.map Lib.decDigits→a=b:=by
  intro a
  induction a with
  |nil=>intro b _ _ h;cases b with|nil=>rfl|cons=>cases h
  |cons x a ih =>
   intro b ha hb h
   cases b with
   |nil=>cases h
   |cons y b =>
    rw [List.map_cons,List.map_cons] at h
    have h1:=puP_dec x (ha x (List.mem_cons_self ..))
    have h2:=puP_dec y (hb y (List.mem_cons_self ..))
    rw [(List.cons.inj h).1,h2] at h1
    injection h1 with h1
    rw [h1,ih b (fun z hz=>ha z (List.mem_cons_of_mem _ hz)) (fun z hz=>hb z (List.mem_cons_of_mem _ hz)) (List.cons.inj h).2]
 have e3:=inj _ _ (fun x hx=>h.2.2.1 x (List.mem_of_mem_take hx)) (fun x hx=>h'.2.2.1 x (List.mem_of_mem_take hx)) e2
 rw [← may_pad h.1 h.2.1,← may_pad h'.1 h'.2.1,e3]
theorem argsK_dec {op:Int} {xs:List Nat} (hm:MayC op xs) (hx:xs.length=6) (hw:∀ x∈xs,x<18446744073709551616):argsK ((xs.take (car op)).map Lib.decDigits) (car op)=xs:=by
 have hc:=car_le op
 have h1:prs ((xs.take (car op)).map Lib.decDigits)=xs.take (car op):=by
  unfold prs
  rw [List.map_map]
  have:∀ x∈xs.take (car op),((fun x=>(puP x).getD 0) ∘ Lib.decDigits) x=id x:=fun x hx=>by
   simp only [Function.comp_apply]
   rw [puP_dec x (hw x (List.mem_of_mem_take hx))]
   rfl
  rw [List.map_congr_left this,List.map_id]
 unfold argsK
 rw [h1,List.take_of_length_le (by rw [List.length_take];omega)]
 exact may_pad hm hx
theorem untext_is {s:List UInt8} {op:Int} {xs:List Nat} (h:IsCall s op xs) :
  ACall cx 68 [.str s,.map 0] [.mpx TABLE 21] (.tup [.agg (.int .i64 op::wl xs),.bool true]) [.mpx TABLE 21]:=by
 have hp:=call_parts h
 obtain ⟨hm,hx,hw,hs⟩:=h
 have hsl:s.length≤115:=by rw [← hs];exact ctx_len hw
 have hc:=car_le op
 have hlen:((xs.take (car op)).map Lib.decDigits).length=car op:=by rw [List.length_map,List.length_take];omega
 have hz:=parts_sizes s [32]
 rw [hp] at hz
 have ha:=argsK_dec hm hx hw
 have:=untext_hit s (by omega) op hm.1 _ hp hlen (fun x hx=>Nat.le_trans (hz x (List.mem_cons_of_mem _ hx)) (by omega)) (fun k hk=>by
  rw [List.getElem_map]
  exact ⟨_,puP_dec _ (hw _ (List.mem_of_mem_take (List.getElem_mem _)))⟩) true (by rw [hlen,ha,hs];simp)
 rw [hlen,ha] at this
 exact this
theorem untext_no {s:List UInt8} (hs:s.length≤1048576) (h:∀ op xs,¬ IsCall s op xs) :
  ∃ (op:Int) (xs:List Nat),xs.length=6∧ACall cx 68 [.str s,.map 0] [.mpx TABLE 21] (.tup [.agg (.int .i64 op::wl xs),.bool false]) [.mpx TABLE 21]:=by
 obtain ⟨w0,wr,hw,hl⟩:=parts_len s [32] (by decide)
 have hz:=parts_sizes s [32]
 rw [hw] at hz
 by_cases hh:∃ op:Int,(1≤op∧op≤21)∧cnm op=w0∧wr.length=car op
 ·obtain ⟨op,ho,rfl,hwl⟩:=hh
  have hc:=car_le op
  have hwp:∀ x∈wr,x.length≤1048576:=fun x hx=>Nat.le_trans (hz x (List.mem_cons_of_mem _ hx)) hs
  by_cases hall:∀ k (h:k<wr.length),∃ v,puP wr[k]=some v
  ·refine ⟨op,argsK wr wr.length,argsK_len wr wr.length (Nat.le_refl _) (by omega),untext_hit s hs op ho wr hw hwl hwp hall false (decide_eq_false ?_).symm⟩
   intro e
   refine h op (argsK wr wr.length) ⟨⟨ho,fun x hx=>?_⟩,argsK_len wr wr.length (Nat.le_refl _) (by omega),argsK_lt wr wr.length,e⟩
   unfold argsK at hx
   rw [List.drop_append,List.drop_eq_nil_of_le (by rw [List.length_take];omega),List.nil_append] at hx
   exact (List.mem_replicate.1 (List.mem_of_mem_drop hx)).2
  ·have:∃ j,∃ h:j<wr.length,puP wr[j]=none∧∀ k,k<j→∃ v,puP (wr.getD k [])=some v:=by
    clear hz hw hwl hwp hl
    induction wr with
    |nil=>exact absurd (fun k hk=>by simp at hk) hall
    |cons y wr ih =>
     cases hy:puP y with
     |none=>exact ⟨0,by simp,by simpa using hy,fun k hk=>by omega⟩
     |some v =>
      obtain ⟨j,hj,h1,h2⟩:=ih (fun g=>hall (fun k hk=>by
       cases k with
       |zero=>exact ⟨v,by simpa using hy⟩
       |succ k=>simpa using g k (by simpa using hk)))
      refine ⟨j+1,by simpa using hj,by simpa using h1,fun k hk=>?_⟩
      cases k with
      |zero=>exact ⟨v,by simpa using hy⟩
      |succ k=>simpa using h2 k (by omega)
   obtain ⟨j,hj,h1,h2⟩:=this
   exact ⟨0,[0,0,0,0,0,0],rfl,untext_bad s hs op ho wr hw hwl hwp j hj h1 h2⟩
 ·exact ⟨0,[0,0,0,0,0,0],rfl,untext_miss s hs w0 wr hw (by omega) fun op ho k=>hh ⟨op,ho,k.1,k.2⟩⟩
theorem plain_tcv (op:Int) (xs:List Nat) (b:Bool):plainV (.tup [.agg (.int .i64 op::wl xs),.bool b])=true:=by
 have:=plain_cv op xs
 simp only [plainV,plainVs] at this ⊢
 simp [this]
theorem untext_lend {s:List UInt8} {r:AVal} (h:ACall cx 68 [.str s,.map 0] [.mpx TABLE 21] r [.mpx TABLE 21]) (hr:plainV r=true) {S:St} {i:Nat} (hS:S[i]? = some (.mpx TABLE 21)) :
  ACall cx 68 [.str s,.map i] S r S :=
 ACall.lendX cxG h (by kernel_rfl) hr hS rfl fun j h1 h0=>by
  match j,h1 with
  |0,_=>exact .inl ⟨rfl,rfl⟩
  |1,_=>exact .inr ⟨rfl,rfl⟩
theorem call_Untext (s:List UInt8) (hs:s.length≤1048576) (r:AVal) (hr:(∃ op xs,IsCall s op xs∧r = .tup [.agg (.int .i64 op::wl xs),.int .i64 0]) ∨
  ((∀ op xs,¬ IsCall s op xs)∧r = .tup [.agg [.int .i64 0,.int .u64 0,.int .u64 0,.int .u64 0,.int .u64 0,.int .u64 0,.int .u64 0],.int .i64 4])):APure cx 30 [.str s] r:=by
 rcases hr with ⟨op,xs,h,rfl⟩|⟨h,rfl⟩
 case' inl =>
  have hx:=h.2.1
  have hc:=untext_lend (S:=[.cells [.int .i64 0,.int .u64 0,.int .u64 0,.int .u64 0,.int .u64 0,.int .u64 0,.int .u64 0] 28]++[.mpx TABLE 21]) (i:=1) (untext_is h) (plain_tcv op xs true) rfl
 case' inr =>
  obtain ⟨op,xs,hx,h2⟩:=untext_no hs h
  have hc:=untext_lend (S:=[.cells [.int .i64 0,.int .u64 0,.int .u64 0,.int .u64 0,.int .u64 0,.int .u64 0,.int .u64 0] 28]++[.mpx TABLE 21]) (i:=1) h2 (plain_tcv op xs false) rfl
  clear h2
 all_goals
 clear h
 refine pure_fnK cxOk Tryz.func30 (fun _=>false) (fun _=>none) (by kernel_rfl) (by dsimp only [Tryz.f30,go_sem,seval,liteO,Option.map,List.map];exact .mk _) ?_
 dsimp only [Tryz.f30,frame0,List.zipIdx,List.map,Nat.reduceAdd]
 try simp only [List.getElem?_toArray,List.getElem?_cons_succ,List.getElem?_cons_zero,Option.bind_some]
 repeat' (first|refine aC_seq ?_|refine aC_reg rfl ?_|refine aC_skip ?_|refine aC_ret ?_|refine thenQ_normal ?_|refine thenQ_ret ?_|refine aL_nil ?_|(apply aL_step;(·exact True.intro);(iterate 2 (·simp (disch:=omega) only [go_sem,seval]<;>with_reducible rfl));(·simp only [go_sem]<;>with_reducible rfl))|(refine aC_condT ?_ ?_;(·simp (disch:=omega) only [go_sem,seval]))|(refine aC_condF ?_ ?_;(·simp (disch:=omega) only [go_sem,seval]))|(apply aL_aK (call_table _);(·rfl);(iterate 2 (·simp (disch:=omega) only [go_sem,seval]<;>with_reducible rfl));(·simp only [go_sem]<;>with_reducible rfl))|(apply aL_aK (hc);(·rfl);(iterate 2 (·simp (disch:=omega) only [go_sem,seval]<;>with_reducible rfl));(·simp only [go_sem]<;>with_reducible rfl))|fail)
 all_goals try (first|exact True.intro|exact not_false|omega|(simp (disch:=omega) only [go_sem,seval]<;>omega))
 all_goals (clear hc)
 all_goals try (simp (disch:=omega) only [go_sem,seval])
 all_goals try simp
 all_goals omega
end
end Go.Am
end
section
namespace Go.Am
open Go Go.Proofs
set_option maxHeartbeats 8000000
set_option maxRecDepth 100000
section
attribute [local irreducible] aC aL thenQ blockQ scopeQ ALoop AWp
def rst (a:Nat) (c:UInt8):Nat:=(a*10+c.toNat+18446744073709551568)%18446744073709551616
def rnum (s:List UInt8):Nat:=s.foldl rst 0
section
attribute [local irreducible] rst
end
end
end Go.Am
end
