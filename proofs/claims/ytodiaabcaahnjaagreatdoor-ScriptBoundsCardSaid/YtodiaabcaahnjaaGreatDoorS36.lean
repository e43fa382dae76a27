/- The reader's take. -/
import Derived.Test.YtodiaabcaahnjaaGreatDoorS31
import Derived.Test.YtodiaabcaahnjaaGreatDoorS05
import Derived.Test.YtodiaabcaahnjaaGreatDoorS17
set_option linter.unusedVariables false
set_option linter.unusedSimpArgs false
section
namespace Go.Am
open Go Go.Proofs
set_option maxHeartbeats 8000000
set_option maxRecDepth 100000
section
attribute [local irreducible] aC aL thenQ blockQ scopeQ ALoop AWp
section
variable {C:Cx}
theorem fill_one (S:St) (z:ABox):∀ L:Holes,(∀ e∈L,e=(S.length,z))→fill (S++[.hole]) L=S++[.hole]∨fill (S++[.hole]) L=S++[z]
 |[],_=>.inl rfl
 |e::L,h=>by
  obtain rfl:=h e (List.mem_cons_self ..)
  have e1:(S++[ABox.hole]).set S.length z=S++[z]:=by simp
  have key:∀ L:Holes,(∀ e∈L,e=(S.length,z))→fill (S++[z]) L=S++[z]:=by
   intro L
   induction L with
   |nil=>intro _;rfl
   |cons e L ih =>
    intro h
    obtain rfl:=h e (List.mem_cons_self ..)
    show fill ((S++[z]).set S.length z) L=_
    rw [show (S++[z]).set S.length z=S++[z] by simp]
    exact ih fun e he=>h e (List.mem_cons_of_mem _ he)
  right
  show fill ((S++[ABox.hole]).set S.length z) L=_
  rw [e1]
  exact key L fun e he=>h e (List.mem_cons_of_mem _ he)
theorem aLH_keep {U:UL} {B:List (Option Nat × Nat)} {p:FuncId→Bool} {q:Nat→Option UL} {d:Option Nat} {gd:Option (Option Nat × Bool)} {x:Operand} {xs:Array Operand} {ts:Array TypeId} {rest:List LO} {Q:Fr→St→Prop} {fr:Fr} {S:St} {f:FuncId} {zs bs args cargs:List AVal} {r:AVal} {z:ABox} {fr':Fr} {n:Nat} {S1:St}
  (hc:∀ x:ABox,(x = .hole∨x=z)→ACall C f cargs (S++[x]) r (S++[x])) (hp:p f=false) (hn:S.length=n) (hS1:S++[.hole]=S1) (hg:wantL gd fr=some true) (hx:aEval (C.wp p q) fr.get x = .fn (.func f) zs bs) (ha:zs++xs.toList.map (aEval (C.wp p q) fr.get)++bs=args) (he:cargs=args) (hf:fr.put d r=fr')
  (k:aL (C.wp p q) (some (U,B,[(n,z)])) rest Q fr' S1):aL (C.wp p q) (some (U,B,[(n,z)])) (⟨d,.call ⟨.value x,xs,ts⟩,gd⟩::rest) Q fr S1:=by
 subst hn hS1
 refine aLH_call hg hx ha (he▸(hc .hole (.inl rfl)).callX hp) hf (fun _ _ h=>h) (fun L hL=>?_) (fun _ _ _=>rfl) k
 rcases fill_one S z L (fun e he'=>by simpa using (hL e he').1) with e|e
 ·rw [e];exact he▸(hc .hole (.inl rfl)).callX hp
 ·rw [e];exact he▸(hc z (.inr rfl)).callX hp
end
def rdC (s:Su) (nd ne:Bool) (lt:Bool) (T:List AVal) (n k:Nat):List AVal:=.int .i64 s.g :: .bool s.i::(bl s.m++[.sl 32 nd (dgs s.d) .any,.sl 1 ne (wl s.e) .any,.sl 11 lt T (.own 3),.int .i64 (n:Nat),.int .i64 (k:Nat),.map 1])
def rdS (Z:ABox) (s:Su) (nd ne:Bool) (lt:Bool) (T:List AVal) (n k:Nat):St:=[Z,.mp SAY 6,.cells (rdC s nd ne lt T n k) 93,.grow T.length 11 31]
theorem drop32 {m:List UInt8} (h:m.length=32) (n:Nat) (r:List AVal):(bl m++r).drop (n+32)=r.drop n:=by
 rw [List.drop_append,List.drop_eq_nil_of_le (by rw [length_bl];omega),length_bl,h];simp
theorem set32 {m:List UInt8} (h:m.length=32) (n:Nat) (r:List AVal) (x:AVal):(bl m++r).set (n+32) x=bl m++r.set n x:=by
 rw [List.set_append_right _ _ (by rw [length_bl];omega),length_bl,h];simp
theorem get32 {m:List UInt8} (h:m.length=32) (n:Nat) (r:List AVal):(bl m++r)[n+32]? = r[n]?:=by
 rw [List.getElem?_append_right (by rw [length_bl];omega),length_bl,h];simp
theorem put_pre2 {a b:List AVal} {x y x' y':AVal} {r:List AVal} (h:a.length=b.length):putCells (a++x::y::r) 0 (b++[x',y'])=b++x'::y'::r:=by
 have e:a++x::y::r=(a++[x,y])++r:=by simp
 rw [e,putCells_pre (by simp [h])]
 simp
theorem put32 {m m':List UInt8} (h:m.length=32) (h':m'.length=32) (x y x' y':AVal) (r:List AVal):putCells (bl m++x::y::r) 0 (bl m'++[x',y'])=bl m'++x'::y'::r:=put_pre2 (by rw [length_bl,length_bl,h,h'])
theorem rt_bad (Z:ABox) (s:Su) (hs:s.m.length=32) (nd ne lt is:Bool) (T:List AVal) (C':List AVal) (hs':C'.length=36) (hone:(∀ x∈C',x.one=true)↔True) (n k k':Nat) (hn:n≤10000000) (hk:k≤5) (hk':k'≤5) (line:List UInt8)
  (hT:∀ x:ABox,(x = .hole∨x = .cells zeroC 45)→ACall cx 64 [.agg (suC s nd ne),.str line,.map 1] (rdS Z s nd ne lt T n k++[x]) (.tup [.agg (C'),.int .i64 (k':Nat),.bool is]) (rdS Z s nd ne lt T n k++[x]))
  (hbad:Bad n k k'):ACall cx 42 [.ptr 2 0,.str line] (rdS Z s nd ne lt T n k) (.bool false) (rdS Z s nd ne lt T n k++[.cells (C') 45]):=by
 have hmx:maxI 3 ((k:Nat):Int)=((max 3 k:Nat):Int):=by unfold maxI;split<;>omega
 obtain ⟨g,i,m,d,e⟩:=s
 unfold rdS rdC suC at *
 unfold zeroC at hT
 simp only at *
 rcases hbad with ⟨h1,h2⟩|⟨h1,h2⟩
 all_goals
 refine acall_fnK cxOk Tryz.func42 (fun _=>false) (fe42.q) (by kernel_rfl) (by dsimp only [Tryz.f42,go_sem,seval,liteO,Option.map,List.map];exact .mk _) ?_
 dsimp only [Tryz.f42,frame0,List.zipIdx,List.map,Nat.reduceAdd]
 try simp only [List.getElem?_toArray,List.getElem?_cons_succ,List.getElem?_cons_zero,Option.bind_some]
 repeat' (first|refine aC_seq ?_|refine aC_reg rfl ?_|refine thenQ_normal ?_|refine aL_nil ?_|(apply aL_step;(·exact True.intro);(iterate 2 (·simp (disch:=first|omega|(simp only [go_sem];omega)) only [go_sem,seval]<;>with_reducible rfl));(·simp only [go_sem]<;>with_reducible rfl))|fail)
 refine aC_regH (U:=[(some 15,some 5),(some 20,some 5)]) rfl [(some 15,2),(some 20,2)] [(4,.cells (.int .i64 0 :: .bool false::(bl (List.replicate 32 0)++[.sl 1 true [] .any,.sl 1 true [] .any])) 45)] 1 ?_
 repeat' (first|refine aLH_nil ?_|(apply aLH_step;(·exact True.intro);(·rfl);(·rfl);(·simp (disch:=first|omega|(simp only [go_sem];omega)) only [go_sem,seval,hs,hs',hone,drop32 hs,set32 hs,get32 hs,hmx]);(·simp (disch:=first|omega|(simp only [go_sem];omega)) only [go_sem,seval,hs,hs',hone,drop32 hs,set32 hs,get32 hs,hmx]<;>with_reducible rfl);(·simp only [go_sem]<;>with_reducible rfl);(·(intro b hb;first|(cases hb;done)|(simp (disch:=first|omega|(simp only [go_sem];omega)) only [loadBox,go_sem,seval] at hb;(try injection hb with hb);subst hb;simp))))|(apply aLH_write;(·exact True.intro);(·rfl);(·rfl);(·rfl);(·simp (disch:=first|omega|(simp only [go_sem];omega)) only [go_sem,seval,hs,hs',hone,drop32 hs,set32 hs,get32 hs,hmx]);(·simp (disch:=first|omega|(simp only [go_sem];omega)) only [go_sem,seval,hs,hs',hone,drop32 hs,set32 hs,get32 hs,hmx]<;>with_reducible rfl);(·simp only [go_sem]<;>with_reducible rfl);(·simp);(·simp);(·simp))|(apply aLH_alloc 4;(case hg=>(simp (disch:=first|omega|(simp only [go_sem];omega)) only [go_sem,seval,hs,hs',hone,drop32 hs,set32 hs,get32 hs,hmx]));(case hi=>(simp (disch:=first|omega|(simp only [go_sem];omega)) only [go_sem,seval,hs,hs',hone,drop32 hs,set32 hs,get32 hs,hmx]<;>with_reducible rfl));(case hs=>(simp (disch:=first|omega|(simp only [go_sem];omega)) only [go_sem,seval,hs,hs',hone,drop32 hs,set32 hs,get32 hs,hmx]<;>with_reducible rfl));(case hS=>(simp (disch:=first|omega|(simp only [go_sem];omega)) only [go_sem,seval,hs,hs',hone,drop32 hs,set32 hs,get32 hs,hmx]<;>with_reducible rfl));(case hf=>(simp only [go_sem]<;>with_reducible rfl));(case hH=>(simp));(case hk=>(simp)))|(apply aLH_keep hT;(·rfl);(·rfl);(·rfl);(·simp (disch:=first|omega|(simp only [go_sem];omega)) only [go_sem,seval,hs,hs',hone,drop32 hs,set32 hs,get32 hs,hmx]);(·simp (disch:=first|omega|(simp only [go_sem];omega)) only [go_sem,seval,hs,hs',hone,drop32 hs,set32 hs,get32 hs,hmx]<;>with_reducible rfl);(·simp (disch:=first|omega|(simp only [go_sem];omega)) only [go_sem,seval,hs,hs',hone,drop32 hs,set32 hs,get32 hs,hmx]<;>with_reducible rfl);(·with_reducible rfl);(·simp only [go_sem]<;>with_reducible rfl))|fail)
 repeat' (first|refine aC_seq ?_|refine aC_reg rfl ?_|refine aC_ret ?_|refine thenQ_normal ?_|refine thenQ_ret ?_|refine aL_nil ?_|(apply aL_step;(·exact True.intro);(iterate 2 (·simp (disch:=first|omega|(simp only [go_sem];omega)) only [go_sem,seval,hs,hs',hone,drop32 hs,set32 hs,get32 hs,hmx]<;>with_reducible rfl));(·simp only [go_sem]<;>with_reducible rfl))|(refine aL_skip ?_ (by simp only [go_sem]<;>with_reducible rfl) ?_;(·simp (disch:=first|omega|(simp only [go_sem];omega)) only [go_sem,seval,hs,hs',hone,drop32 hs,set32 hs,get32 hs,hmx]))|(apply aL_guardN;(·simp (disch:=first|omega|(simp only [go_sem];omega)) only [go_sem,seval,hs,hs',hone,drop32 hs,set32 hs,get32 hs,hmx]<;>with_reducible rfl);all_goals (intro h;first|(exfalso;omega)|(simp only [h,decide_true,decide_false,not_true,not_false_iff])))|(apply aL_guardP;(·simp (disch:=first|omega|(simp only [go_sem];omega)) only [go_sem,seval,hs,hs',hone,drop32 hs,set32 hs,get32 hs,hmx]<;>with_reducible rfl);all_goals (intro h;first|(exfalso;omega)|(simp only [h,decide_true,decide_false,not_true,not_false_iff])))|(refine aC_condT ?_ ?_;(·simp (disch:=first|omega|(simp only [go_sem];omega)) only [go_sem,seval,hs,hs',hone,drop32 hs,set32 hs,get32 hs,hmx]))|(refine aC_condP (by simp (disch:=first|omega|(simp only [go_sem];omega)) only [go_sem,seval,hs,hs',hone,drop32 hs,set32 hs,get32 hs,hmx]<;>with_reducible rfl) ?_ ?_<;>(intro h;first|(exfalso;omega)|skip))|fail)
 all_goals try (first|exact True.intro|exact not_false|omega|(simp (disch:=first|omega|(simp only [go_sem];omega)) only [go_sem,seval]<;>omega))
theorem rt_set (Z:ABox) (s s':Su) (hs:s.m.length=32) (hs':s'.m.length=32) (nd ne nd' ne' lt is:Bool) (T:List AVal) (n k k':Nat) (hn:n≤10000000) (hk:k≤5) (hk':k'≤5) (line:List UInt8)
  (hT:∀ x:ABox,(x = .hole∨x = .cells zeroC 45)→ACall cx 64 [.agg (suC s nd ne),.str line,.map 1] (rdS Z s nd ne lt T n k++[x]) (.tup [.agg (suC s' nd' ne'),.int .i64 (k':Nat),.bool is]) (rdS Z s nd ne lt T n k++[x]))
  (his:is=true) (hgood:¬ Bad n k k'):ACall cx 42 [.ptr 2 0,.str line] (rdS Z s nd ne lt T n k) (.bool (decide (s'.d.length≤4096∧s'.e.length≤4096))) (rdS Z s' nd' ne' lt T (n+1) k'++[.cells (suC s' nd' ne') 45]):=by
 have hmx:maxI 3 ((k:Nat):Int)=((max 3 k:Nat):Int):=by unfold maxI;split<;>omega
 subst his
 unfold Bad at hgood
 obtain ⟨g,i,m,d,e⟩:=s
 obtain ⟨g',i',m',d',e'⟩:=s'
 unfold rdS rdC suC at *
 unfold zeroC at hT
 simp only at *
 refine acall_fnK cxOk Tryz.func42 (fun _=>false) (fe42.q) (by kernel_rfl) (by dsimp only [Tryz.f42,go_sem,seval,liteO,Option.map,List.map];exact .mk _) ?_
 dsimp only [Tryz.f42,frame0,List.zipIdx,List.map,Nat.reduceAdd]
 try simp only [List.getElem?_toArray,List.getElem?_cons_succ,List.getElem?_cons_zero,Option.bind_some]
 repeat' (first|refine aC_seq ?_|refine aC_reg rfl ?_|refine thenQ_normal ?_|refine aL_nil ?_|(apply aL_step;(·exact True.intro);(iterate 2 (·simp (disch:=first|omega|(simp only [go_sem];omega)) only [go_sem,seval]<;>with_reducible rfl));(·simp only [go_sem]<;>with_reducible rfl))|fail)
 refine aC_regH (U:=[(some 15,some 5),(some 20,some 5)]) rfl [(some 15,2),(some 20,2)] [(4,.cells (.int .i64 0 :: .bool false::(bl (List.replicate 32 0)++[.sl 1 true [] .any,.sl 1 true [] .any])) 45)] 1 ?_
 repeat' (first|refine aLH_nil ?_|(apply aLH_step;(·exact True.intro);(·rfl);(·rfl);(·simp (disch:=first|omega|(simp only [go_sem];omega)) only [go_sem,seval,hs,hs',drop32 hs,drop32 hs',set32 hs,set32 hs',get32 hs,get32 hs',hmx,put32 hs hs']);(·simp (disch:=first|omega|(simp only [go_sem];omega)) only [go_sem,seval,hs,hs',drop32 hs,drop32 hs',set32 hs,set32 hs',get32 hs,get32 hs',hmx,put32 hs hs']<;>with_reducible rfl);(·simp only [go_sem]<;>with_reducible rfl);(·(intro b hb;first|(cases hb;done)|(simp (disch:=first|omega|(simp only [go_sem];omega)) only [loadBox,go_sem,seval] at hb;(try injection hb with hb);subst hb;simp))))|(apply aLH_write;(·exact True.intro);(·rfl);(·rfl);(·rfl);(·simp (disch:=first|omega|(simp only [go_sem];omega)) only [go_sem,seval,hs,hs',drop32 hs,drop32 hs',set32 hs,set32 hs',get32 hs,get32 hs',hmx,put32 hs hs']);(·simp (disch:=first|omega|(simp only [go_sem];omega)) only [go_sem,seval,hs,hs',drop32 hs,drop32 hs',set32 hs,set32 hs',get32 hs,get32 hs',hmx,put32 hs hs']<;>with_reducible rfl);(·simp only [go_sem]<;>with_reducible rfl);(·simp);(·simp);(·simp))|(apply aLH_alloc 4;(case hg=>(simp (disch:=first|omega|(simp only [go_sem];omega)) only [go_sem,seval,hs,hs',drop32 hs,drop32 hs',set32 hs,set32 hs',get32 hs,get32 hs',hmx,put32 hs hs']));(case hi=>(simp (disch:=first|omega|(simp only [go_sem];omega)) only [go_sem,seval,hs,hs',drop32 hs,drop32 hs',set32 hs,set32 hs',get32 hs,get32 hs',hmx,put32 hs hs']<;>with_reducible rfl));(case hs=>(simp (disch:=first|omega|(simp only [go_sem];omega)) only [go_sem,seval,hs,hs',drop32 hs,drop32 hs',set32 hs,set32 hs',get32 hs,get32 hs',hmx,put32 hs hs']<;>with_reducible rfl));(case hS=>(simp (disch:=first|omega|(simp only [go_sem];omega)) only [go_sem,seval,hs,hs',drop32 hs,drop32 hs',set32 hs,set32 hs',get32 hs,get32 hs',hmx,put32 hs hs']<;>with_reducible rfl));(case hf=>(simp only [go_sem]<;>with_reducible rfl));(case hH=>(simp));(case hk=>(simp)))|(apply aLH_keep hT;(·rfl);(·rfl);(·rfl);(·simp (disch:=first|omega|(simp only [go_sem];omega)) only [go_sem,seval,hs,hs',drop32 hs,drop32 hs',set32 hs,set32 hs',get32 hs,get32 hs',hmx,put32 hs hs']);(·simp (disch:=first|omega|(simp only [go_sem];omega)) only [go_sem,seval,hs,hs',drop32 hs,drop32 hs',set32 hs,set32 hs',get32 hs,get32 hs',hmx,put32 hs hs']<;>with_reducible rfl);(·simp (disch:=first|omega|(simp only [go_sem];omega)) only [go_sem,seval,hs,hs',drop32 hs,drop32 hs',set32 hs,set32 hs',get32 hs,get32 hs',hmx,put32 hs hs']<;>with_reducible rfl);(·with_reducible rfl);(·simp only [go_sem]<;>with_reducible rfl))|fail)
 repeat' (first|refine aC_seq ?_|refine aC_reg rfl ?_|refine aC_skip ?_|refine aC_ret ?_|refine thenQ_normal ?_|refine thenQ_ret ?_|refine aL_nil ?_|(apply aL_step;(·exact True.intro);(iterate 2 (·simp (disch:=first|omega|(simp only [go_sem];omega)) only [go_sem,seval,hs,hs',drop32 hs,drop32 hs',set32 hs,set32 hs',get32 hs,get32 hs',hmx,put32 hs hs',putCells_cons0]<;>with_reducible rfl));(·simp only [go_sem]<;>with_reducible rfl))|(refine aL_skip ?_ (by simp only [go_sem]<;>with_reducible rfl) ?_;(·simp (disch:=first|omega|(simp only [go_sem];omega)) only [go_sem,seval,hs,hs',drop32 hs,drop32 hs',set32 hs,set32 hs',get32 hs,get32 hs',hmx,put32 hs hs',putCells_cons0]))|(apply aL_guardN;(·simp (disch:=first|omega|(simp only [go_sem];omega)) only [go_sem,seval,hs,hs',drop32 hs,drop32 hs',set32 hs,set32 hs',get32 hs,get32 hs',hmx,put32 hs hs',putCells_cons0]<;>with_reducible rfl);all_goals (intro h;first|(exfalso;omega)|(simp only [h,decide_true,decide_false,not_true,not_false_iff])))|(apply aL_guardP;(·simp (disch:=first|omega|(simp only [go_sem];omega)) only [go_sem,seval,hs,hs',drop32 hs,drop32 hs',set32 hs,set32 hs',get32 hs,get32 hs',hmx,put32 hs hs',putCells_cons0]<;>with_reducible rfl);all_goals (intro h;first|(exfalso;omega)|(simp only [h,decide_true,decide_false,not_true,not_false_iff])))|(refine aC_condT ?_ ?_;(·simp (disch:=first|omega|(simp only [go_sem];omega)) only [go_sem,seval,hs,hs',drop32 hs,drop32 hs',set32 hs,set32 hs',get32 hs,get32 hs',hmx,put32 hs hs',putCells_cons0]))|(refine aC_condF ?_ ?_;(·simp (disch:=first|omega|(simp only [go_sem];omega)) only [go_sem,seval,hs,hs',drop32 hs,drop32 hs',set32 hs,set32 hs',get32 hs,get32 hs',hmx,put32 hs hs',putCells_cons0]))|(refine aC_condP (by simp (disch:=first|omega|(simp only [go_sem];omega)) only [go_sem,seval,hs,hs',drop32 hs,drop32 hs',set32 hs,set32 hs',get32 hs,get32 hs',hmx,put32 hs hs',putCells_cons0]<;>with_reducible rfl) ?_ ?_<;>(intro h;first|(exfalso;omega)|skip))|fail)
 all_goals try (first|exact True.intro|exact not_false|omega|(simp (disch:=first|omega|(simp only [go_sem];omega)) only [go_sem,seval]<;>omega))
 all_goals clear hT
 all_goals try (simp (disch:=first|omega|(simp only [go_sem];omega)) only [go_sem,seval,put32 hs hs'])
 all_goals try simp
 all_goals try omega
 all_goals rw [decide_eq_true (p:=d'.length≤4096) (by omega),Bool.true_and]
 all_goals exact decide_eq_decide.2 (by omega)
theorem rt_unl (Z:ABox) (s:Su) (hs:s.m.length=32) (nd ne lt is:Bool) (T:List AVal) (hTl:T.length≤10000000) (C':List AVal) (hs':C'.length=36) (hone:(∀ x∈C',x.one=true)↔True) (n k k':Nat) (hn:n≤10000000) (hk:k≤5) (hk':k'≤5) (line:List UInt8)
  (hT:∀ x:ABox,(x = .hole∨x = .cells zeroC 45)→ACall cx 64 [.agg (suC s nd ne),.str line,.map 1] (rdS Z s nd ne lt T n k++[x]) (.tup [.agg (C'),.int .i64 (k':Nat),.bool is]) (rdS Z s nd ne lt T n k++[x]))
  (his:is=false) (hgood:¬ Bad n k k') (st:Sp) (bn:Bool) (hx6:st.xs.length=6) (er:Int) (hU:APure cx 9 [.str line] (.tup [.agg (spC st bn .any),.int .i64 er])) :
  ACall cx 42 [.ptr 2 0,.str line] (rdS Z s nd ne lt T n k) (.bool (decide (er=0∧T.length+1≤65536))) (rdS Z s nd ne false (T++[.agg (spC st bn .any)]) (n+1) k'++[.cells (C') 45,.cells (spC st bn .any) 31]):=by
 have hmx:maxI 3 ((k:Nat):Int)=((max 3 k:Nat):Int):=by unfold maxI;split<;>omega
 subst his
 unfold Bad at hgood
 obtain ⟨g,i,m,d,e⟩:=s
 obtain ⟨kk,op,xs,a,w,b⟩:=st
 obtain ⟨x0,x1,x2,x3,x4,x5,rfl⟩:=six hx6
 unfold rdS rdC suC at *
 unfold zeroC at hT
 simp only [spC_six] at *
 refine acall_fnK cxOk Tryz.func42 (fun _=>false) (fe42.q) (by kernel_rfl) (by dsimp only [Tryz.f42,go_sem,seval,liteO,Option.map,List.map];exact .mk _) ?_
 dsimp only [Tryz.f42,frame0,List.zipIdx,List.map,Nat.reduceAdd]
 try simp only [List.getElem?_toArray,List.getElem?_cons_succ,List.getElem?_cons_zero,Option.bind_some]
 repeat' (first|refine aC_seq ?_|refine aC_reg rfl ?_|refine thenQ_normal ?_|refine aL_nil ?_|(apply aL_step;(·exact True.intro);(iterate 2 (·simp (disch:=first|omega|(simp only [go_sem];omega)) only [go_sem,seval]<;>with_reducible rfl));(·simp only [go_sem]<;>with_reducible rfl))|fail)
 refine aC_regH (U:=[(some 15,some 5),(some 20,some 5)]) rfl [(some 15,2),(some 20,2)] [(4,.cells (.int .i64 0 :: .bool false::(bl (List.replicate 32 0)++[.sl 1 true [] .any,.sl 1 true [] .any])) 45)] 1 ?_
 repeat' (first|refine aLH_nil ?_|(apply aLH_step;(·exact True.intro);(·rfl);(·rfl);(·simp (disch:=first|omega|(simp only [go_sem];omega)) only [go_sem,seval,hs,hs',hone,drop32 hs,set32 hs,get32 hs,hmx]);(·simp (disch:=first|omega|(simp only [go_sem];omega)) only [go_sem,seval,hs,hs',hone,drop32 hs,set32 hs,get32 hs,hmx]<;>with_reducible rfl);(·simp only [go_sem]<;>with_reducible rfl);(·(intro b hb;first|(cases hb;done)|(simp (disch:=first|omega|(simp only [go_sem];omega)) only [loadBox,go_sem,seval] at hb;(try injection hb with hb);subst hb;simp))))|(apply aLH_write;(·exact True.intro);(·rfl);(·rfl);(·rfl);(·simp (disch:=first|omega|(simp only [go_sem];omega)) only [go_sem,seval,hs,hs',hone,drop32 hs,set32 hs,get32 hs,hmx]);(·simp (disch:=first|omega|(simp only [go_sem];omega)) only [go_sem,seval,hs,hs',hone,drop32 hs,set32 hs,get32 hs,hmx]<;>with_reducible rfl);(·simp only [go_sem]<;>with_reducible rfl);(·simp);(·simp);(·simp))|(apply aLH_alloc 4;(case hg=>(simp (disch:=first|omega|(simp only [go_sem];omega)) only [go_sem,seval,hs,hs',hone,drop32 hs,set32 hs,get32 hs,hmx]));(case hi=>(simp (disch:=first|omega|(simp only [go_sem];omega)) only [go_sem,seval,hs,hs',hone,drop32 hs,set32 hs,get32 hs,hmx]<;>with_reducible rfl));(case hs=>(simp (disch:=first|omega|(simp only [go_sem];omega)) only [go_sem,seval,hs,hs',hone,drop32 hs,set32 hs,get32 hs,hmx]<;>with_reducible rfl));(case hS=>(simp (disch:=first|omega|(simp only [go_sem];omega)) only [go_sem,seval,hs,hs',hone,drop32 hs,set32 hs,get32 hs,hmx]<;>with_reducible rfl));(case hf=>(simp only [go_sem]<;>with_reducible rfl));(case hH=>(simp));(case hk=>(simp)))|(apply aLH_keep hT;(·rfl);(·rfl);(·rfl);(·simp (disch:=first|omega|(simp only [go_sem];omega)) only [go_sem,seval,hs,hs',hone,drop32 hs,set32 hs,get32 hs,hmx]);(·simp (disch:=first|omega|(simp only [go_sem];omega)) only [go_sem,seval,hs,hs',hone,drop32 hs,set32 hs,get32 hs,hmx]<;>with_reducible rfl);(·simp (disch:=first|omega|(simp only [go_sem];omega)) only [go_sem,seval,hs,hs',hone,drop32 hs,set32 hs,get32 hs,hmx]<;>with_reducible rfl);(·with_reducible rfl);(·simp only [go_sem]<;>with_reducible rfl))|fail)
 repeat' (first|refine aC_seq ?_|refine aC_reg rfl ?_|refine aC_skip ?_|refine aC_ret ?_|refine thenQ_normal ?_|refine aL_nil ?_|(apply aL_step;(·exact True.intro);(iterate 2 (·simp (disch:=first|omega|(simp only [go_sem];omega)) only [go_sem,seval,hs,hs',hone,drop32 hs,set32 hs,get32 hs,hmx,putCells_cons0]<;>with_reducible rfl));(·simp only [go_sem]<;>with_reducible rfl))|(refine aL_skip ?_ (by simp only [go_sem]<;>with_reducible rfl) ?_;(·simp (disch:=first|omega|(simp only [go_sem];omega)) only [go_sem,seval,hs,hs',hone,drop32 hs,set32 hs,get32 hs,hmx,putCells_cons0]))|(apply aL_guardN;(·simp (disch:=first|omega|(simp only [go_sem];omega)) only [go_sem,seval,hs,hs',hone,drop32 hs,set32 hs,get32 hs,hmx,putCells_cons0]<;>with_reducible rfl);all_goals (intro h;first|(exfalso;omega)|(simp only [h,decide_true,decide_false,not_true,not_false_iff])))|(apply aL_guardP;(·simp (disch:=first|omega|(simp only [go_sem];omega)) only [go_sem,seval,hs,hs',hone,drop32 hs,set32 hs,get32 hs,hmx,putCells_cons0]<;>with_reducible rfl);all_goals (intro h;first|(exfalso;omega)|(simp only [h,decide_true,decide_false,not_true,not_false_iff])))|(refine aC_condF ?_ ?_;(·simp (disch:=first|omega|(simp only [go_sem];omega)) only [go_sem,seval,hs,hs',hone,drop32 hs,set32 hs,get32 hs,hmx,putCells_cons0]))|(refine aC_condP (by simp (disch:=first|omega|(simp only [go_sem];omega)) only [go_sem,seval,hs,hs',hone,drop32 hs,set32 hs,get32 hs,hmx,putCells_cons0]<;>with_reducible rfl) ?_ ?_<;>(intro h;first|(exfalso;omega)|skip))|(apply aL_pK cxG (hU);(iterate 2 (·simp (disch:=first|omega|(simp only [go_sem];omega)) only [go_sem,seval,hs,hs',hone,drop32 hs,set32 hs,get32 hs,hmx,putCells_cons0]<;>with_reducible rfl));(·simp only [go_sem]<;>with_reducible rfl);(·simp))|fail)
 all_goals try (first|exact True.intro|exact not_false|omega|(simp (disch:=first|omega|(simp only [go_sem];omega)) only [go_sem,seval]<;>omega))
 all_goals clear hT hU
 all_goals try (simp (disch:=first|omega|(simp only [go_sem];omega)) only [go_sem,seval])
 all_goals try simp
 all_goals try omega
end
end Go.Am
end
section
namespace Go.Am
open Go Go.Proofs
set_option maxHeartbeats 8000000
set_option maxRecDepth 100000
section
attribute [local irreducible] aC aL thenQ blockQ scopeQ ALoop AWp
theorem say_bel (n:Nat):belB n (.mp SAY 6)=true:=rfl
theorem rdS_bel {n:Nat} (hn:4≤n) {Z:ABox} (hZ:belB n Z=true) (s:Su) (nd ne lt:Bool) (l:List (Sp × Bool)) (m k:Nat):belS n (rdS Z s nd ne lt (sts l) m k)=true:=by
 have h3:Nat.blt 3 n=true:=blt_iff.2 (by omega)
 have h1:Nat.blt 1 n=true:=blt_iff.2 (by omega)
 unfold rdS rdC
 show (belB n Z&&(belB n (.mp SAY 6)&&(belB n _&&(belB n _&&true))))=true
 rw [hZ,say_bel]
 simp [belB,belF,bel,bels,bels_append',bels_bytes',bels_dgs,bels_wl,bels_sts,belT,h1,h3]
def rdP (Z:ABox) (p:Ps) (n:Nat):St:=rdS Z p.s p.s.d.isEmpty p.s.e.isEmpty p.l.isEmpty (sts (stl p.l)) n p.rank
theorem drop_tail {C:Cx} (hG:GClosed C) {f:FuncId} {args:List AVal} {r:AVal} {S S' R:St} {n:Nat} (h:ACall C f args S r (S'++R)) (hS:S.length=n) (hS':S'.length=n) (hr:bel n r=true) (hb:belS n S'=true):ACall C f args S r S':=by
 have e:(S'++R).take n=S':=by subst hS';simp
 have q:=ACall.drop hG h (n:=n) (by omega) hr (by rw [e];exact hb)
 rwa [e] at q
theorem app_nd (y:Sl) (s:Su):y.nd s.d.isEmpty=(y.app s).d.isEmpty:=by cases y<;>simp [Sl.nd,Sl.app]
theorem app_ne (y:Sl) (s:Su):y.ne s.e.isEmpty=(y.app s).e.isEmpty:=by cases y<;>simp [Sl.ne,Sl.app]
theorem reader_take (Z:ABox) (hZ:∀ n,4≤n→belB n Z=true) (p:Ps) (hp:p.Ok) (n:Nat) (hn:n≤10000000) (x:List UInt8) (hx:x.length≤100000) :
  (∀ p',stepP n p x=some p'→ACall cx 42 [.ptr 2 0,.str x] (rdP Z p n) (.bool true) (rdP Z p' (n+1))) ∧
  (stepP n p x=none→∃ C k,ACall cx 42 [.ptr 2 0,.str x] (rdP Z p n) (.bool false) [Z,.mp SAY 6,.cells C 93,.grow k 11 31]):=by
 have hr5:=hp.r5
 have hd4:=hp.d4
 have he4:=hp.e4
 have hl6:=hp.l6
 have hb5:∀ x:ABox,(x = .hole∨x = .cells zeroC 45)→belS 5 (rdP Z p n++[x])=true:=fun x hx=>by
  rw [belS_app,Bool.and_eq_true]
  refine ⟨rdS_bel (by decide) (hZ 5 (by decide)) _ _ _ _ _ _ _,?_⟩
  rcases hx with rfl|rfl
  ·rfl
  ·rfl
 have hT:=fun (r:AVal) hr (z:ABox) hz=>script_take (rdP Z p n++[z]) 1 5 rfl rfl (hb5 z hz) (by decide) x hx p.s hp.su.m32 p.s.d.isEmpty p.s.e.isEmpty (fun h=>List.isEmpty_iff.1 h) (fun h=>List.isEmpty_iff.1 h) (by omega) (by omega) r hr
 have hTl:(sts (stl p.l)).length≤10000000:=by rw [length_sts,length_stl];omega
 have hm:=hp.su.m32
 rcases slOf_cases x with ⟨y,hy,e⟩|⟨hno,e⟩
 ·have hT':=hT _ (.inl ⟨y,hy,rfl⟩)
  unfold tookR at hT'
  have hm':(y.app p.s).m.length=32:=(app_ok hy.1 hp.su).m32
  have hy4:=y.rank_le
  by_cases hbad:Bad n p.rank y.rank
  ·have k:=rt_bad Z p.s hm _ _ p.l.isEmpty true (sts (stl p.l)) (suC (y.app p.s) _ _) (suC_len _ _ _ hm') (one_suC _ _ _) n p.rank y.rank hn hr5 (by omega) x hT' hbad
   have k:=drop_tail (n:=4) cxG k rfl rfl rfl (rdS_bel (by decide) (hZ 4 (by decide)) _ _ _ _ _ _ _)
   refine ⟨fun p' h=>?_,fun _=>⟨_,_,k⟩⟩
   unfold stepP at h
   rw [e] at h
   simp only [stepW,if_pos hbad] at h
   cases h
  ·have k:=rt_set Z p.s (y.app p.s) hm hm' _ _ _ _ p.l.isEmpty true (sts (stl p.l)) n p.rank y.rank hn hr5 (by omega) x hT' rfl hbad
   have k:=drop_tail (n:=4) cxG k rfl rfl rfl (rdS_bel (by decide) (hZ 4 (by decide)) _ _ _ _ _ _ _)
   rw [app_nd,app_ne] at k
   unfold stepP
   rw [e]
   simp only [stepW,if_neg hbad]
   by_cases hle:(y.app p.s).d.length≤4096∧(y.app p.s).e.length≤4096
   ·rw [if_pos hle]
    rw [decide_eq_true hle] at k
    refine ⟨fun p' h=>?_,fun h=>by cases h⟩
    obtain rfl:=Option.some.inj h
    exact k
   ·rw [if_neg hle]
    rw [decide_eq_false hle] at k
    exact ⟨fun p' h=>(by cases h),fun _=>⟨_,_,k⟩⟩
 ·have hT':=hT _ (.inr ⟨hno,rfl⟩)
  by_cases h3:n<3
  ·have k:=rt_bad Z p.s hm _ _ p.l.isEmpty false (sts (stl p.l)) zeroC rfl one_zeroC n p.rank 5 hn hr5 (by omega) x hT' (.inl ⟨h3,by omega⟩)
   have k:=drop_tail (n:=4) cxG k rfl rfl rfl (rdS_bel (by decide) (hZ 4 (by decide)) _ _ _ _ _ _ _)
   refine ⟨fun p' h=>?_,fun _=>⟨_,_,k⟩⟩
   unfold stepP at h
   rw [e] at h
   simp only [stepW,if_pos h3] at h
   cases h
  ·have hgood:¬ Bad n p.rank 5:=fun h=>by
    rcases h with h|h
    ·exact h3 h.1
    ·omega
   rcases stOf_cases x with ⟨st,hst,e2⟩|⟨hst,e2⟩
   ·have hU:=script_Unline x hx _ (.inl ⟨st,hst,rfl⟩)
    have k:=rt_unl Z p.s hm _ _ p.l.isEmpty false (sts (stl p.l)) hTl zeroC rfl one_zeroC n p.rank 5 hn hr5 (by omega) x hT' rfl hgood st _ hst.2.1.x6 0 hU
    have hsn:sts (stl p.l)++[.agg (spC st st.b.isEmpty .any)]=sts (stl (p.l++[st])):=by rw [stl_snoc,sts_snoc]
    rw [hsn] at k
    have k:=drop_tail (n:=4) cxG k rfl rfl rfl (rdS_bel (by decide) (hZ 4 (by decide)) _ _ _ _ _ _ _)
    unfold stepP
    rw [e,e2]
    simp only [stepW,if_neg h3]
    by_cases hle:p.l.length<65536
    ·rw [if_pos hle]
     rw [decide_eq_true ⟨rfl,by rw [length_sts,length_stl];omega⟩] at k
     refine ⟨fun p' h=>?_,fun h=>by cases h⟩
     obtain rfl:=Option.some.inj h
     unfold rdP
     simp only
     rw [show (p.l++[st]).isEmpty=false by simp]
     exact k
    ·rw [if_neg hle]
     rw [decide_eq_false (fun h=>hle (by have:=h.2;rw [length_sts,length_stl] at this;omega))] at k
     exact ⟨fun p' h=>(by cases h),fun _=>⟨_,_,k⟩⟩
   ·have hU:=script_Unline x hx _ (.inr ⟨hst,rfl⟩)
    have k:=rt_unl Z p.s hm _ _ p.l.isEmpty false (sts (stl p.l)) hTl zeroC rfl one_zeroC n p.rank 5 hn hr5 (by omega) x hT' rfl hgood Sp.zero true rfl 4 hU
    have hsn:sts (stl p.l)++[.agg (spC Sp.zero true .any)]=sts (stl (p.l++[Sp.zero])):=by rw [stl_snoc,sts_snoc];rfl
    rw [hsn] at k
    have k:=drop_tail (n:=4) cxG k rfl rfl rfl (rdS_bel (by decide) (hZ 4 (by decide)) _ _ _ _ _ _ _)
    rw [decide_eq_false (fun h=>absurd h.1 (by decide))] at k
    unfold stepP
    rw [e,e2]
    simp only [stepW,if_neg h3]
    exact ⟨fun p' h=>(by cases h),fun _=>⟨_,_,k⟩⟩
end
end Go.Am
end
section
namespace Go.Am
open Go Go.Proofs
set_option maxHeartbeats 8000000
set_option maxRecDepth 100000
def jn (L:List (List UInt8)) (rest:List UInt8):List UInt8:=(L.flatMap fun x=>x++[10])++rest
theorem jn_nil (rest:List UInt8):jn [] rest=rest:=rfl
theorem jn_cons (x:List UInt8) (L:List (List UInt8)) (rest:List UInt8):jn (x::L) rest=x++10::jn L rest:=by simp [jn]
theorem jn_sizes:∀ (L:List (List UInt8)) (rest:List UInt8),(∀ x∈L,x.length+1≤(jn L rest).length)∧rest.length≤(jn L rest).length∧L.length≤(jn L rest).length
 |[],rest=>⟨by simp,by simp [jn],by simp⟩
 |y::L,rest=>by
  have ih:=jn_sizes L rest
  rw [jn_cons]
  simp only [List.length_append,List.length_cons]
  refine ⟨fun x hx=>?_,by omega,by omega⟩
  rcases List.mem_cons.1 hx with rfl|hx
  ·omega
  ·have:=ih.1 x hx
   omega
theorem cut_line (x y:List UInt8) (h:(10:UInt8) ∉ x):Lib.cut (x++10::y) [10]=(x,y,true):=by
 unfold Lib.cut
 rw [index_hit1 10 x y h,if_pos (by omega),Int.toNat_natCast,List.take_left]
 have:(x++10::y).drop (x.length+([10]:List UInt8).length)=y:=by
  rw [List.drop_append,List.drop_eq_nil_of_le (by simp)]
  simp
 rw [this]
theorem cut_rest (x:List UInt8) (h:(10:UInt8) ∉ x):Lib.cut x [10]=(x,[],false):=by
 unfold Lib.cut
 rw [index_miss1 10 x h,if_neg (by omega)]
theorem a_cut (s:List UInt8) (hs:s.length≤4294967280):APure cx 31 [.str s,.str [10]] (.tup [.str (Lib.cut s [10]).1,.str (Lib.cut s [10]).2.1,.bool (Lib.cut s [10]).2.2]) :=
 apure_shelf (vs:=[.string ⟨s.toArray⟩,.string ⟨[10].toArray⟩]) (callable_of Tryz.func31 (by kernel_rfl) (by kernel_rfl)) rfl fun w im0 hG=>by
  obtain ⟨m,hm⟩:=GL.int (E:=env0 w im0) (hG 0 _ rfl)
  have hz:(⟨s.toArray⟩ : ByteArray).size=s.length:=rfl
  refine (Tryz.strings_Cut ⟨s.toArray⟩ ⟨[10].toArray⟩ m w (by omega) hm).mono fun e w' h=>?_
  obtain ⟨rfl,n,rfl⟩:=h
  refine ⟨_,rfl,grown_drawn n,.tup _ _ rfl fun j hj=>?_⟩
  match j,hj with
  |0,_=>exact .str _ _ rfl
  |1,_=>exact .str _ _ rfl
  |2,_=>exact .bool _
end Go.Am
end
section
namespace Go.Am
open Go Go.Proofs
set_option maxHeartbeats 8000000
set_option maxRecDepth 100000
section
attribute [local irreducible] aC aL thenQ blockQ scopeQ ALoop AWp
theorem PL93_3 (z:List AVal):placeOf cx.T ⟨(.struct #[⟨ "s", 48,0,false, "", "anchorite/script", 0⟩,⟨ "n", 3,37,false, "", "anchorite/script", 120⟩,⟨ "rank", 3,38,false, "", "anchorite/script", 128⟩,⟨ "all", 90,39,false, "", "anchorite/script", 136⟩]),40,144,z⟩ 3=some (39,1):=by kernel_rfl
attribute [go_sem] PL93_3
theorem cells_map (i:Nat):(AVal.map i).cells=[.map i]:=rfl
theorem okc_map (i:Nat):(AVal.map i).okc↔True:=okc_one rfl rfl
theorem take32 {m:List UInt8} (h:m.length=32) (n:Nat) (r:List AVal):(bl m++r).take (n+32)=bl m++r.take n:=by
 rw [List.take_append,List.take_of_length_le (by rw [length_bl];omega),length_bl,h];simp
attribute [go_sem] cells_map okc_map
def zS:ABox:=.cells (.int .i64 0 :: .bool false::(bl [0,0,0,0,0,0,0,0,0,0,0,0,0,0,0,0,0,0,0,0,0,0,0,0,0,0,0,0,0,0,0,0]++[.sl 1 true [] .any,.sl 1 true [] .any,.sl 1 true [] .any])) 48
theorem zS_bel (n:Nat) (_:4≤n):belB n zS=true:=rfl
theorem GStep.wkB {C:Cx} {N:Nat} (i:Nat) (cs':List AVal) {fr:Fr} {S:St} {cs:List AVal} {tb:TypeId} (hS:S[i]? = some (.cells cs tb)) (hw:Wks cs cs'):GStep C N fr S fr (S.set i (.cells cs' tb)):=fun E a hE hES hr=>by
 subst hES
 obtain ⟨b,arr,h1,h2,h3,h4⟩:=hE.entry i _ hS
 obtain ⟨x1,x2⟩:=env_set hE (w':=E.w) h1 ⟨rfl,rfl,rfl,Nat.le_refl _,fun _ _ _=>rfl⟩ _ (.cells cs' tb) hS rfl rfl (fun hext=>⟨b,arr,h1,h2,by rw [← Wks_length hw];exact h3,fun j hj=>by
  have hj':j<cs.length:=by rw [Wks_length hw];exact hj
  have r:=h4 j hj'
  exact ⟨(r.1.ext hE hext).wk (Wks_get hw j hj' hj),r.2⟩⟩)
 exact ⟨{ E with S:=E.S.set i (.cells cs' tb) },rfl,x1,x2,rfl,hr.ext hE x1⟩
theorem zRes (n:Nat) (e:Int):psR n e (psC p0) = .tup [.agg (.int .i64 0 :: .bool false::(bl [0,0,0,0,0,0,0,0,0,0,0,0,0,0,0,0,0,0,0,0,0,0,0,0,0,0,0,0,0,0,0,0]++[.sl 32 true [] .any,.sl 1 true [] .any,.sl 11 true [] .any])),.int .i64 (n:Nat),.int .i64 e]:=rfl
noncomputable def preD (L:List (List UInt8)) (k:Nat):Ps:=(preP L k).getD p0
theorem preD_eq {L:List (List UInt8)} {k:Nat} {p:Ps} (h:preP L k=some p):preD L k=p:=by unfold preD;rw [h];rfl
theorem script_Parse (s:List UInt8) (L:List (List UInt8)) (rest:List UInt8) (hs:s.length≤4194304) (hx:∀ x∈L,x.length≤100000) (hL10:∀ x∈L,(10:UInt8) ∉ x) (hr10:(10:UInt8) ∉ rest) (hj:s=jn L rest):APure cx 13 [.str s] (parR L rest):=by
 have hsz:=jn_sizes L rest
 rw [← hj] at hsz
 have hLs:L.length≤4194304:=by have:=hsz.2.2;omega
 have hjl:∀ k,k≤L.length→(jn (L.drop k) rest).length≤4194304:=fun k _=>by
  have e:jn L rest=jn (L.take k) []++jn (L.drop k) rest:=by
   unfold jn
   rw [List.append_nil,← List.append_assoc,← List.flatMap_append,List.take_append_drop]
  have:=congrArg List.length e
  rw [List.length_append,← hj] at this
  omega
 have hjs:jn (L.drop 0) rest=s:=by rw [List.drop_zero,hj]
 have hrl:rest.length≤4194304:=by have:=hsz.2.1;omega
 have hm:=say_map
 clear hsz
 refine pure_fnD cxOk Tryz.func13 (fun _=>false) (fe13.q) (by kernel_rfl) (by dsimp only [Tryz.f13,go_sem,seval,liteO,Option.map,List.map];exact .mk _) ?_
 dsimp only [Tryz.f13,frame0,List.zipIdx,List.map,Nat.reduceAdd]
 try simp only [List.getElem?_toArray,List.getElem?_cons_succ,List.getElem?_cons_zero,Option.bind_some]
 repeat' (first|refine aC_seq ?_|refine aC_reg rfl ?_|refine aC_block ?_|refine aC_skip ?_|refine aC_loop ?_|refine aC_scope ?_|refine thenQ_normal ?_|refine aL_nil ?_|(apply aL_step;(·exact True.intro);(iterate 2 (·simp (disch:=first|omega|(simp only [go_sem];omega)) only [go_sem,seval,set32 (m:=[0,0,0,0,0,0,0,0,0,0,0,0,0,0,0,0,0,0,0,0,0,0,0,0,0,0,0,0,0,0,0,0]) rfl,drop32 (m:=[0,0,0,0,0,0,0,0,0,0,0,0,0,0,0,0,0,0,0,0,0,0,0,0,0,0,0,0,0,0,0,0]) rfl]<;>with_reducible rfl));(·simp only [go_sem]<;>with_reducible rfl))|(refine aC_condP (by simp (disch:=first|omega|(simp only [go_sem];omega)) only [go_sem,seval,set32 (m:=[0,0,0,0,0,0,0,0,0,0,0,0,0,0,0,0,0,0,0,0,0,0,0,0,0,0,0,0,0,0,0,0]) rfl,drop32 (m:=[0,0,0,0,0,0,0,0,0,0,0,0,0,0,0,0,0,0,0,0,0,0,0,0,0,0,0,0,0,0,0,0]) rfl]<;>with_reducible rfl) ?_ ?_<;>(intro h;first|(exfalso;omega)|skip))|(apply aL_aK ((hm _));(·rfl);(iterate 2 (·simp (disch:=first|omega|(simp only [go_sem];omega)) only [go_sem,seval,set32 (m:=[0,0,0,0,0,0,0,0,0,0,0,0,0,0,0,0,0,0,0,0,0,0,0,0,0,0,0,0,0,0,0,0]) rfl,drop32 (m:=[0,0,0,0,0,0,0,0,0,0,0,0,0,0,0,0,0,0,0,0,0,0,0,0,0,0,0,0,0,0,0,0]) rfl]<;>with_reducible rfl));(·simp only [go_sem]<;>with_reducible rfl))|fail)
 all_goals try (first|exact True.intro|exact not_false|omega|(simp (disch:=first|omega|(simp only [go_sem];omega)) only [go_sem,seval]<;>omega))
 ·refine loop_ruleD (cxOk.wp _ _) (cxG.wp _ _) (σ:=Nat) (fun k=>[(8,.str (jn (L.drop k) rest)),(7,.bool true),(6,.int .i64 (k:Nat)),(5,.ptr 2 0),(2,.ptr 0 0)])
   (fun k=>rdP zS (preD L k) k) (fun k=>L.length-k) (fun k=>k≤L.length∧preP L k=some (preD L k))
   4 0 ((GStep.wkB 2 (.int .i64 0 :: .bool false::(bl [0,0,0,0,0,0,0,0,0,0,0,0,0,0,0,0,0,0,0,0,0,0,0,0,0,0,0,0,0,0,0,0]++[.sl 32 true [] .any,.sl 1 true [] .any,.sl 1 true [] .any,.int .i64 0,.int .i64 0,.map 1])) rfl (by simp [Wks,Wk,Wks_app])).trans (GStep.ownG 2 36 11 31 rfl rfl)) ⟨⟨Nat.zero_le _,rfl⟩,Sub.of_all (by simp [Fr.get,← hj]),(by rfl)⟩ (by simp)
   (fun k _=>⟨rdS_bel (by decide) (zS_bel 4 (by decide)) _ _ _ _ _ _ _,by simp [belF,bel,belT,Nat.blt]⟩) ?_
  clear hm
  rintro k ⟨hk,hJ⟩
  have hjk:=hjl k hk
  obtain ⟨hp,hpl⟩:=preP_ok hJ
  by_cases hlt:k<L.length
  ·have hdk:jn (L.drop k) rest=L[k]++10::jn (L.drop (k+1)) rest:=by rw [List.drop_eq_getElem_cons hlt,jn_cons]
   have hcut:=a_cut (jn (L.drop k) rest) (by omega)
   rw [hdk,cut_line _ _ (hL10 _ (List.getElem_mem hlt)),← hdk] at hcut
   simp only at hcut
   have hne2:jn (L.drop k) rest≠[]:=by rw [hdk];simp
   have hbn:(jn (L.drop k) rest==[])=false:=by simp [hne2]
   have hxk:=hx _ (List.getElem_mem hlt)
   have hrt:=reader_take zS zS_bel (preD L k) hp k (by omega) L[k] hxk
   have hsu:=preP_succ hJ hlt
   cases hst:stepP k (preD L k) L[k] with
   |some p' =>
    have hrt:=hrt.1 p' hst
    rw [hst] at hsu
    have hpe:=preD_eq hsu
    clear hst hdk hjl hL10 hx hp
    rw [← hpe] at hsu hrt
    clear hpe
    generalize hR:jn (L.drop k) rest=R at *
    generalize hR2:jn (L.drop (k+1)) rest=R2 at *
    generalize L[k]=x at *
    generalize hS1:rdP zS (preD L k) k=S1 at *
    generalize hS2:rdP zS (preD L (k+1)) (k+1)=S2 at *
    repeat' (first|refine aC_seq ?_|refine aC_reg rfl ?_|refine aC_block ?_|refine aC_skip ?_|refine thenQ_normal ?_|refine blockQ_normal ?_|refine aL_nil ?_|(apply aL_step;(·exact True.intro);(iterate 2 (·simp (disch:=first|omega|(simp only [go_sem];omega)) only [go_sem,seval,hbn,hne2,decide_true,decide_false,not_false_eq_true]<;>with_reducible rfl));(·simp only [go_sem]<;>with_reducible rfl))|(refine aC_condT ?_ ?_;(·simp (disch:=first|omega|(simp only [go_sem];omega)) only [go_sem,seval,hbn,hne2,decide_true,decide_false,not_false_eq_true]))|(refine aC_condF ?_ ?_;(·simp (disch:=first|omega|(simp only [go_sem];omega)) only [go_sem,seval,hbn,hne2,decide_true,decide_false,not_false_eq_true]))|(apply aL_pK cxG (hcut);(iterate 2 (·simp (disch:=first|omega|(simp only [go_sem];omega)) only [go_sem,seval,hbn,hne2,decide_true,decide_false,not_false_eq_true]<;>with_reducible rfl));(·simp only [go_sem]<;>with_reducible rfl);(·simp))|(apply aL_aK (hrt);(·rfl);(iterate 2 (·simp (disch:=first|omega|(simp only [go_sem];omega)) only [go_sem,seval,hbn,hne2,decide_true,decide_false,not_false_eq_true]<;>with_reducible rfl));(·simp only [go_sem]<;>with_reducible rfl))|fail)
    all_goals try (first|exact True.intro|exact not_false|omega|(simp (disch:=first|omega|(simp only [go_sem];omega)) only [go_sem,seval]<;>omega))
    all_goals
    refine ⟨k+1,⟨by omega,hsu⟩,?_,?_,by omega⟩
    ·rw [hR2]
     exact Sub.of_all (by simp [Fr.get])
    ·rw [← hS2]
     rfl
   |none =>
    obtain ⟨C,kk,hrt⟩:=hrt.2 hst
    have hpr:=parR_bad (rest:=rest) hlt hJ hst
    rw [hpr]
    clear hst hdk hjl hL10 hx hp hsu hpr
    generalize hR:jn (L.drop k) rest=R at *
    generalize hR2:jn (L.drop (k+1)) rest=R2 at *
    generalize L[k]=x at *
    generalize hS1:rdP zS (preD L k) k=S1 at *
    unfold zS at hrt
    repeat' (first|refine aC_seq ?_|refine aC_reg rfl ?_|refine aC_block ?_|refine aC_skip ?_|refine scopeQ_ret ?_|refine aC_exit ?_|refine aC_ret ?_|refine thenQ_normal ?_|refine thenQ_ret ?_|refine thenQ_exit ?_|refine blockQ_hit ?_|refine blockQ_miss rfl ?_|refine aL_nil ?_|(apply aL_step;(·exact True.intro);(iterate 2 (·simp (disch:=first|omega|(simp only [go_sem];omega)) only [go_sem,seval,hbn,hne2,decide_true,decide_false,not_false_eq_true]<;>with_reducible rfl));(·simp only [go_sem]<;>with_reducible rfl))|(refine aL_skip ?_ (by simp only [go_sem]<;>with_reducible rfl) ?_;(·simp (disch:=first|omega|(simp only [go_sem];omega)) only [go_sem,seval,hbn,hne2,decide_true,decide_false,not_false_eq_true]))|(refine aC_condT ?_ ?_;(·simp (disch:=first|omega|(simp only [go_sem];omega)) only [go_sem,seval,hbn,hne2,decide_true,decide_false,not_false_eq_true]))|(apply aL_pK cxG (hcut);(iterate 2 (·simp (disch:=first|omega|(simp only [go_sem];omega)) only [go_sem,seval,hbn,hne2,decide_true,decide_false,not_false_eq_true]<;>with_reducible rfl));(·simp only [go_sem]<;>with_reducible rfl);(·simp))|(apply aL_aK (hrt);(·rfl);(iterate 2 (·simp (disch:=first|omega|(simp only [go_sem];omega)) only [go_sem,seval,hbn,hne2,decide_true,decide_false,not_false_eq_true]<;>with_reducible rfl));(·simp only [go_sem]<;>with_reducible rfl))|fail)
    all_goals try (first|exact True.intro|exact not_false|omega|(simp (disch:=first|omega|(simp only [go_sem];omega)) only [go_sem,seval]<;>omega))
    all_goals try (intro _ _ h;exact h.elim)
    all_goals clear hcut
    all_goals rw [zRes]
    all_goals try (simp (disch:=first|omega|(simp only [go_sem];omega)) only [go_sem,seval])
    all_goals try simp [Wk,Wks,Wks_app]
  ·have hk':k=L.length:=by omega
   subst hk'
   rw [List.drop_length,jn_nil] at hjk ⊢
   by_cases hre:rest=[]
   ·subst hre
    have hm:=hp.su.m32
    by_cases h3:L.length<3
    ·have hpr:=parR_end (rest:=[]) hJ (.inr h3)
     rw [hpr]
     clear hJ hjl hL10 hx hp hpr hpl
     generalize preD L L.length=p at *
     obtain ⟨⟨g,i,m,d,e⟩,l,rk⟩:=p
     generalize L.length=n at *
     unfold rdP rdS rdC zS
     simp only at *
     repeat' (first|refine aC_seq ?_|refine aC_reg rfl ?_|refine scopeQ_ret ?_|refine aC_exit ?_|refine aC_ret ?_|refine thenQ_normal ?_|refine thenQ_ret ?_|refine thenQ_exit ?_|refine blockQ_hit ?_|refine aL_nil ?_|(apply aL_step;(·exact True.intro);(iterate 2 (·simp (disch:=first|omega|(simp only [go_sem];omega)) only [go_sem,seval,eq_self_iff_true,decide_true,decide_false,not_false_eq_true]<;>with_reducible rfl));(·simp only [go_sem]<;>with_reducible rfl))|(refine aC_condF ?_ ?_;(·simp (disch:=first|omega|(simp only [go_sem];omega)) only [go_sem,seval,eq_self_iff_true,decide_true,decide_false,not_false_eq_true]))|(refine aC_condP (by simp (disch:=first|omega|(simp only [go_sem];omega)) only [go_sem,seval,eq_self_iff_true,decide_true,decide_false,not_false_eq_true]<;>with_reducible rfl) ?_ ?_<;>(intro h;first|(exfalso;omega)|skip))|fail)
     all_goals try (first|exact True.intro|exact not_false|omega|(simp (disch:=first|omega|(simp only [go_sem];omega)) only [go_sem,seval]<;>omega))
     all_goals try (intro _ _ h;exact h.elim)
     all_goals rw [zRes]
     all_goals try (simp (disch:=first|omega|(simp only [go_sem];omega)) only [go_sem,seval])
     all_goals try simp [Wk,Wks,Wks_app]
    ·have hpr:=parR_ok hJ (by omega)
     rw [hpr]
     clear hJ hjl hL10 hx hp hpr hpl
     generalize preD L L.length=p at *
     obtain ⟨⟨g,i,m,d,e⟩,l,rk⟩:=p
     generalize L.length=n at *
     unfold rdP rdS rdC zS psR psC scC
     simp only at *
     repeat' (first|refine aC_seq ?_|refine aC_reg rfl ?_|refine aC_skip ?_|refine scopeQ_ret ?_|refine aC_exit ?_|refine aC_ret ?_|refine thenQ_normal ?_|refine thenQ_exit ?_|refine blockQ_hit ?_|refine aL_nil ?_|(apply aL_step;(·exact True.intro);(iterate 2 (·simp (disch:=first|omega|(simp only [go_sem];omega)) only [go_sem,seval,eq_self_iff_true,decide_true,decide_false,not_false_eq_true,hm,take32 hm]<;>with_reducible rfl));(·simp only [go_sem]<;>with_reducible rfl))|(refine aC_condF ?_ ?_;(·simp (disch:=first|omega|(simp only [go_sem];omega)) only [go_sem,seval,eq_self_iff_true,decide_true,decide_false,not_false_eq_true,hm,take32 hm]))|(refine aC_condP (by simp (disch:=first|omega|(simp only [go_sem];omega)) only [go_sem,seval,eq_self_iff_true,decide_true,decide_false,not_false_eq_true,hm,take32 hm]<;>with_reducible rfl) ?_ ?_<;>(intro h;first|(exfalso;omega)|skip))|fail)
     all_goals try (first|exact True.intro|exact not_false|omega|(simp (disch:=first|omega|(simp only [go_sem];omega)) only [go_sem,seval]<;>omega))
     all_goals try (intro _ _ h;exact h.elim)
     all_goals try (simp (disch:=first|omega|(simp only [go_sem];omega)) only [go_sem,seval])
     all_goals try simp [Wk,Wks,Wks_app]
     all_goals try omega
   ·have hcut:=a_cut rest (by omega)
    rw [cut_rest rest hr10] at hcut
    simp only at hcut
    have hbn:(rest==[])=false:=by simp [hre]
    have hpr:=parR_end hJ (.inl hre)
    rw [hpr]
    clear hJ hjl hL10 hx hp hpr hpl
    generalize L.length=n at *
    unfold rdP rdS zS
    repeat' (first|refine aC_seq ?_|refine aC_reg rfl ?_|refine aC_block ?_|refine aC_skip ?_|refine scopeQ_ret ?_|refine aC_exit ?_|refine aC_ret ?_|refine thenQ_normal ?_|refine thenQ_ret ?_|refine thenQ_exit ?_|refine blockQ_hit ?_|refine blockQ_miss rfl ?_|refine aL_nil ?_|(apply aL_step;(·exact True.intro);(iterate 2 (·simp (disch:=first|omega|(simp only [go_sem];omega)) only [go_sem,seval,hbn,hre,decide_true,decide_false,not_false_eq_true]<;>with_reducible rfl));(·simp only [go_sem]<;>with_reducible rfl))|(refine aL_skip ?_ (by simp only [go_sem]<;>with_reducible rfl) ?_;(·simp (disch:=first|omega|(simp only [go_sem];omega)) only [go_sem,seval,hbn,hre,decide_true,decide_false,not_false_eq_true]))|(refine aC_condT ?_ ?_;(·simp (disch:=first|omega|(simp only [go_sem];omega)) only [go_sem,seval,hbn,hre,decide_true,decide_false,not_false_eq_true]))|(apply aL_pK cxG (hcut);(iterate 2 (·simp (disch:=first|omega|(simp only [go_sem];omega)) only [go_sem,seval,hbn,hre,decide_true,decide_false,not_false_eq_true]<;>with_reducible rfl));(·simp only [go_sem]<;>with_reducible rfl);(·simp))|fail)
    all_goals try (first|exact True.intro|exact not_false|omega|(simp (disch:=first|omega|(simp only [go_sem];omega)) only [go_sem,seval]<;>omega))
    all_goals try (intro _ _ h;exact h.elim)
    all_goals clear hcut
    all_goals rw [zRes]
    all_goals try (simp (disch:=first|omega|(simp only [go_sem];omega)) only [go_sem,seval])
    all_goals try simp [Wk,Wks,Wks_app]
 all_goals (intro _ _ h;exact h.elim)
@[simp] theorem closed_scC' (s:Su) (nd ne:Bool) (l:List (Sp × Bool)) (ns:Bool):(∀ x∈scC s nd ne l ns,Closed x)↔True:=⟨fun _=>trivial,fun _ x hx=>by
 simp only [scC,List.mem_cons,List.mem_append,List.not_mem_nil,or_false] at hx
 rcases hx with rfl|rfl|hx|rfl|rfl|rfl
 ·simp
 ·simp
 ·exact clos_ok _ (bels_bytes' 0 _) x hx
 ·exact (closed_sl_any _ _ _).2 ((closed_dgs _).2 trivial)
 ·simp
 ·exact (closed_sl_any _ _ _).2 ((closed_sts _).2 trivial)⟩
end
end Go.Am
end
