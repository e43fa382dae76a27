/- The reader's take. -/
import Derived.Test.YtodiaabcaahnjaaGreatDoorS31
import Derived.Test.YtodiaabcaahnjaaGreatDoorS05
import Derived.Test.YtodiaabcaahnjaaGreatDoorS17
set_option linter.unusedVariables false
set_option linter.unusedSimpArgs false
section
namespace Go.Am
open Go Go.Proofs
set_option maxHeartbeats 8000000
set_option maxRecDepth 100000
section
attribute [local irreducible] aC aL thenQ blockQ scopeQ ALoop AWp
section
variable {C:Cx}
theorem fill_one (S:St) (z:ABox):∀ L:Holes,(∀ e∈L,e=(S.length,z))→fill (S++[.hole]) L=S++[.hole]∨fill (S++[.hole]) L=S++[z]
 |[],_=>.inl rfl
 |e::L,h=>by
  obtain rfl:=h e (List.mem_cons_self ..)
  have e1:(S++[ABox.hole]).set S.length z=S++[z]:=by simp
  have key:∀ L:Holes,(∀ e∈L,e=(S.length,z))→fill (S++[z]) L=S++[z]:=by
   intro L
   induction L with
   |nil=>intro _;rfl
   |cons e L ih =>
    intro h
    obtain rfl:=h e (List.mem_cons_self ..)
    show fill ((S++[z]).set S.length z) L=_
    rw [show (S++[z]).set S.length z=S++[z] by simp]
    exact ih fun e he=>h e (List.mem_cons_of_mem _ he)
  right
  show fill ((S++[ABox.hole]).set S.length z) L=_
  rw [e1]
  exact key L fun e he=>h e (List.mem_cons_of_mem _ he)
theorem aLH_keep {U:UL} {B:List (Option Nat × Nat)} {p:FuncId→Bool} {q:Nat→Option UL} {d:Option Nat} {gd:Option (Option Nat × Bool)} {x:Operand} {xs:Array Operand} {ts:Array TypeId} {rest:List LO} {Q:Fr→St→Prop} {fr:Fr} {S:St} {f:FuncId} {zs bs args cargs:List AVal} {r:AVal} {z:ABox} {fr':Fr} {n:Nat} {S1:St}
  (hc:∀ x:ABox,(x = .hole∨x=z)→ACall C f cargs (S++[x]) r (S++[x])) (hp:p f=false) (hn:S.length=n) (hS1:S++[.hole]=S1) (hg:wantL gd fr=some true) (hx:aEval (C.wp p q) fr.get x = .fn (.func f) zs bs) (ha:zs++xs.toList.map (aEval (C.wp p q) fr.get)++bs=args) (he:cargs=args) (hf:fr.put d r=fr')
  (k:aL (C.wp p q) (some (U,B,[(n,z)])) rest Q fr' S1):aL (C.wp p q) (some (U,B,[(n,z)])) (⟨d,.call ⟨.value x,xs,ts⟩,gd⟩::rest) Q fr S1:=by
 subst hn hS1
 refine aLH_call hg hx ha (he▸(hc .hole (.inl rfl)).callX hp) hf (fun _ _ h=>h) (fun L hL=>?_) (fun _ _ _=>rfl) k
 rcases fill_one S z L (fun e he'=>by simpa using (hL e he').1) with e|e
 ·rw [e];exact he▸(hc .hole (.inl rfl)).callX hp
 ·rw [e];exact he▸(hc z (.inr rfl)).callX hp
end
def rdC (s:Su) (nd ne:Bool) (lt:Bool) (T:List AVal) (n k:Nat):List AVal:=.int .i64 s.g :: .bool s.i::(bl s.m++[.sl 32 nd (dgs s.d) .any,.sl 1 ne (wl s.e) .any,.sl 11 lt T (.own 3),.int .i64 (n:Nat),.int .i64 (k:Nat),.map 1])
def rdS (Z:ABox) (s:Su) (nd ne:Bool) (lt:Bool) (T:List AVal) (n k:Nat):St:=[Z,.mp SAY 6,.cells (rdC s nd ne lt T n k) 93,.grow T.length 11 31]
theorem drop32 {m:List UInt8} (h:m.length=32) (n:Nat) (r:List AVal):(bl m++r).drop (n+32)=r.drop n:=by
 rw [List.drop_append,List.drop_eq_nil_of_le (by rw [length_bl];omega),length_bl,h];simp
theorem set32 {m:List UInt8} (h:m.length=32) (n:Nat) (r:List AVal) (x:AVal):(bl m++r).set (n+32) x=bl m++r.set n x:=by
 rw [List.set_append_right _ _ (by rw [length_bl];omega),length_bl,h];simp
theorem get32 {m:List UInt8} (h:m.length=32) (n:Nat) (r:List AVal):(bl m++r)[n+32]? = r[n]?:=by
 rw [List.getElem?_append_right (by rw [length_bl];omega),length_bl,h];simp
theorem put_pre2 {a b:List AVal} {x y x' y':AVal} {r:List AVal} (h:a.length=b.length):putCells (a++x::y::r) 0 (b++[x',y'])=b++x'::y'::r:=by
 have e:a++x::y::r=(a++[x,y])++r:=by simp
 rw [e,putCells_pre (by simp [h])]
 simp
theorem put32 {m m':List UInt8} (h:m.length=32) (h':m'.length=32) (x y x' y':AVal) (r:List AVal):putCells (bl m++x::y::r) 0 (bl m'++[x',y'])=bl m'++x'::y'::r:=put_pre2 (by rw [length_bl,length_bl,h,h'])
theorem rt_bad (Z:ABox) (s:Su) (hs:s.m.length=32) (nd ne lt is:Bool) (T:List AVal) (C':List AVal) (hs':C'.length=36) (hone:(∀ x∈C',x.one=true)↔True) (n k k':Nat) (hn:n≤10000000) (hk:k≤5) (hk':k'≤5) (line:List UInt8)
  (hT:∀ x:ABox,(x = .hole∨x = .cells zeroC 45)→ACall cx 64 [.agg (suC s nd ne),.str line,.map 1] (rdS Z s nd ne lt T n k++[x]) (.tup [.agg (C'),.int .i64 (k':Nat),.bool is]) (rdS Z s nd ne lt T n k++[x]))
  (hbad:Bad n k k'):ACall cx 42 [.ptr 2 0,.str line] (rdS Z s nd ne lt T n k) (.bool false) (rdS Z s nd ne lt T n k++[.cells (C') 45]):=by
 have hmx:maxI 3 ((k:Nat):Int)=((max 3 k:Nat):Int):=by unfold maxI;split<;>omega
 obtain ⟨g,i,m,d,e⟩:=s
 unfold rdS rdC suC at *
 unfold zeroC at hT
 simp only at *
 rcases hbad with ⟨h1,h2⟩|⟨h1,h2⟩
 all_goals
 refine acall_fnK cxOk Tryz.func42 (fun _=>false) (fe42.q) (by kernel_rfl) (by dsimp only [Tryz.f42,go_sem,seval,liteO,Option.map,List.map];exact .mk _) ?_
 dsimp only [Tryz.f42,frame0,List.zipIdx,List.map,Nat.reduceAdd]
 try simp only [List.getElem?_toArray,List.getElem?_cons_succ,List.getElem?_cons_zero,Option.bind_some]
 repeat' (first|refine aC_seq ?_|refine aC_reg rfl ?_|refine thenQ_normal ?_|refine aL_nil ?_|(apply aL_step;(·exact True.intro);(iterate 2 (·simp (disch:=first|omega|(simp only [go_sem];omega)) only [go_sem,seval]<;>with_reducible rfl));(·simp only [go_sem]<;>with_reducible rfl))|fail)
 refine aC_regH (U:=[(some 15,some 5),(some 20,some 5)]) rfl [(some 15,2),(some 20,2)] [(4,.cells (.int .i64 0 :: .bool false::(bl (List.replicate 32 0)++[.sl 1 true [] .any,.sl 1 true [] .any])) 45)] 1 ?_
 repeat' (first|refine aLH_nil ?_|(apply aLH_step;(·exact True.intro);(·rfl);(·rfl);(·simp (disch:=first|omega|(simp only [go_sem];omega)) only [go_sem,seval,hs,hs',hone,drop32 hs,set32 hs,get32 hs,hmx]);(·simp (disch:=first|omega|(simp only [go_sem];omega)) only [go_sem,seval,hs,hs',hone,drop32 hs,set32 hs,get32 hs,hmx]<;>with_reducible rfl);(·simp only [go_sem]<;>with_reducible rfl);(·(intro b hb;first|(cases hb;done)|(simp (disch:=first|omega|(simp only [go_sem];omega)) only [loadBox,go_sem,seval] at hb;(try injection hb with hb);subst hb;simp))))|(apply aLH_write;(·exact True.intro);(·rfl);(·rfl);(·rfl);(·simp (disch:=first|omega|(simp only [go_sem];omega)) only [go_sem,seval,hs,hs',hone,drop32 hs,set32 hs,get32 hs,hmx]);(·simp (disch:=first|omega|(simp only [go_sem];omega)) only [go_sem,seval,hs,hs',hone,drop32 hs,set32 hs,get32 hs,hmx]<;>with_reducible rfl);(·simp only [go_sem]<;>with_reducible rfl);(·simp);(·simp);(·simp))|(apply aLH_alloc 4;(case hg=>(simp (disch:=first|omega|(simp only [go_sem];omega)) only [go_sem,seval,hs,hs',hone,drop32 hs,set32 hs,get32 hs,hmx]));(case hi=>(simp (disch:=first|omega|(simp only [go_sem];omega)) only [go_sem,seval,hs,hs',hone,drop32 hs,set32 hs,get32 hs,hmx]<;>with_reducible rfl));(case hs=>(simp (disch:=first|omega|(simp only [go_sem];omega)) only [go_sem,seval,hs,hs',hone,drop32 hs,set32 hs,get32 hs,hmx]<;>with_reducible rfl));(case hS=>(simp (disch:=first|omega|(simp only [go_sem];omega)) only [go_sem,seval,hs,hs',hone,drop32 hs,set32 hs,get32 hs,hmx]<;>with_reducible rfl));(case hf=>(simp only [go_sem]<;>with_reducible rfl));(case hH=>(simp));(case hk=>(simp)))|(apply aLH_keep hT;(·rfl);(·rfl);(·rfl);(·simp (disch:=first|omega|(simp only [go_sem];omega)) only [go_sem,seval,hs,hs',hone,drop32 hs,set32 hs,get32 hs,hmx]);(·simp (disch:=first|omega|(simp only [go_sem];omega)) only [go_sem,seval,hs,hs',hone,drop32 hs,set32 hs,get32 hs,hmx]<;>with_reducible rfl);(·simp (disch:=first|omega|(simp only [go_sem];omega)) only [go_sem,seval,hs,hs',hone,drop32 hs,set32 hs,get32 hs,hmx]<;>with_reducible rfl);(·with_reducible rfl);(·simp only [go_sem]<;>with_reducible rfl))|fail)
 repeat' (first|refine aC_seq ?_|refine aC_reg rfl ?_|refine aC_ret ?_|refine thenQ_normal ?_|refine thenQ_ret ?_|refine aL_nil ?_|(apply aL_step;(·exact True.intro);(iterate 2 (·simp (disch:=first|omega|(simp only [go_sem];omega)) only [go_sem,seval,hs,hs',hone,drop32 hs,set32 hs,get32 hs,hmx]<;>with_reducible rfl));(·simp only [go_sem]<;>with_reducible rfl))|(refine aL_skip ?_ (by simp only [go_sem]<;>with_reducible rfl) ?_;(·simp (disch:=first|omega|(simp only [go_sem];omega)) only [go_sem,seval,hs,hs',hone,drop32 hs,set32 hs,get32 hs,hmx]))|(apply aL_guardN;(·simp (disch:=first|omega|(simp only [go_sem];omega)) only [go_sem,seval,hs,hs',hone,drop32 hs,set32 hs,get32 hs,hmx]<;>with_reducible rfl);all_goals (intro h;first|(exfalso;omega)|(simp only [h,decide_true,decide_false,not_true,not_false_iff])))|(apply aL_guardP;(·simp (disch:=first|omega|(simp only [go_sem];omega)) only [go_sem,seval,hs,hs',hone,drop32 hs,set32 hs,get32 hs,hmx]<;>with_reducible rfl);all_goals (intro h;first|(exfalso;omega)|(simp only [h,decide_true,decide_false,not_true,not_false_iff])))|(refine aC_condT ?_ ?_;(·simp (disch:=first|omega|(simp only [go_sem];omega)) only [go_sem,seval,hs,hs',hone,drop32 hs,set32 hs,get32 hs,hmx]))|(refine aC_condP (by simp (disch:=first|omega|(simp only [go_sem];omega)) only [go_sem,seval,hs,hs',hone,drop32 hs,set32 hs,get32 hs,hmx]<;>with_reducible rfl) ?_ ?_<;>(intro h;first|(exfalso;omega)|skip))|fail)
 all_goals try (first|exact True.intro|exact not_false|omega|(simp (disch:=first|omega|(simp only [go_sem];omega)) only [go_sem,seval]<;>omega))
theorem rt_set (Z:ABox) (s s':Su) (hs:s.m.length=32) (hs':s'.m.length=32) (nd ne nd' ne' lt is:Bool) (T:List AVal) (n k k':Nat) (hn:n≤10000000) (hk:k≤5) (hk':k'≤5) (line:List UInt8)
  (hT:∀ x:ABox,(x = .hole∨x = .cells zeroC 45)→ACall cx 64 [.agg (suC s nd ne),.str line,.map 1] (rdS Z s nd ne lt T n k++[x]) (.tup [.agg (suC s' nd' ne'),.int .i64 (k':Nat),.bool is]) (rdS Z s nd ne lt T n k++[x]))
  (his:is=true) (hgood:¬ Bad n k k'):ACall cx 42 [.ptr 2 0,.str line] (rdS Z s nd ne lt T n k) (.bool (decide (s'.d.length≤4096∧s'.e.length≤4096))) (rdS Z s' nd' ne' lt T (n+1) k'++[.cells (suC s' nd' ne') 45]):=by
 have hmx:maxI 3 ((k:Nat):Int)=((max 3 k:Nat):Int):=by unfold maxI;split<;>omega
 subst his
 unfold Bad at hgood
 obtain ⟨g,i,m,d,e⟩:=s
 obtain ⟨g',i',m',d',e'⟩:=s'
 unfold rdS rdC suC at *
 unfold zeroC at hT
 simp only at *
 refine acall_fnK cxOk Tryz.func42 (fun _=>false) (fe42.q) (by kernel_rfl) (by dsimp only [Tryz.f42,go_sem,seval,liteO,Option.map,List.map];exact .mk _) ?_
 dsimp only [Tryz.f42,frame0,List.zipIdx,List.map,Nat.reduceAdd]
 try simp only [List.getElem?_toArray,List.getElem?_cons_succ,List.getElem?_cons_zero,Option.bind_some]
 repeat' (first|refine aC_seq ?_|refine aC_reg rfl ?_|refine thenQ_normal ?_|refine aL_nil ?_|(apply aL_step;(·exact True.intro);(iterate 2 (·simp (disch:=first|omega|(simp only [go_sem];omega)) only [go_sem,seval]<;>with_reducible rfl));(·simp only [go_sem]<;>with_reducible rfl))|fail)
 refine aC_regH (U:=[(some 15,some 5),(some 20,some 5)]) rfl [(some 15,2),(some 20,2)] [(4,.cells (.int .i64 0 :: .bool false::(bl (List.replicate 32 0)++[.sl 1 true [] .any,.sl 1 true [] .any])) 45)] 1 ?_
 repeat' (first|refine aLH_nil ?_|(apply aLH_step;(·exact True.intro);(·rfl);(·rfl);(·simp (disch:=first|omega|(simp only [go_sem];omega)) only [go_sem,seval,hs,hs',drop32 hs,drop32 hs',set32 hs,set32 hs',get32 hs,get32 hs',hmx,put32 hs hs']);(·simp (disch:=first|omega|(simp only [go_sem];omega)) only [go_sem,seval,hs,hs',drop32 hs,drop32 hs',set32 hs,set32 hs',get32 hs,get32 hs',hmx,put32 hs hs']<;>with_reducible rfl);(·simp only [go_sem]<;>with_reducible rfl);(·(intro b hb;first|(cases hb;done)|(simp (disch:=first|omega|(simp only [go_sem];omega)) only [loadBox,go_sem,seval] at hb;(try injection hb with hb);subst hb;simp))))|(apply aLH_write;(·exact True.intro);(·rfl);(·rfl);(·rfl);(·simp (disch:=first|omega|(simp only [go_sem];omega)) only [go_sem,seval,hs,hs',drop32 hs,drop32 hs',set32 hs,set32 hs',get32 hs,get32 hs',hmx,put32 hs hs']);(·simp (disch:=first|omega|(simp only [go_sem];omega)) only [go_sem,seval,hs,hs',drop32 hs,drop32 hs',set32 hs,set32 hs',get32 hs,get32 hs',hmx,put32 hs hs']<;>with_reducible rfl);(·simp only [go_sem]<;>with_reducible rfl);(·simp);(·simp);(·simp))|(apply aLH_alloc 4;(case hg=>(simp (disch:=first|omega|(simp only [go_sem];omega)) only [go_sem,seval,hs,hs',drop32 hs,drop32 hs',set32 hs,set32 hs',get32 hs,get32 hs',hmx,put32 hs hs']));(case hi=>(simp (disch:=first|omega|(simp only [go_sem];omega)) only [go_sem,seval,hs,hs',drop32 hs,drop32 hs',set32 hs,set32 hs',get32 hs,get32 hs',hmx,put32 hs hs']<;>with_reducible rfl));(case hs=>(simp (disch:=first|omega|(simp only [go_sem];omega)) only [go_sem,seval,hs,hs',drop32 hs,drop32 hs',set32 hs,set32 hs',get32 hs,get32 hs',hmx,put32 hs hs']<;>with_reducible rfl));(case hS=>(simp (disch:=first|omega|(simp only [go_sem];omega)) only [go_sem,seval,hs,hs',drop32 hs,drop32 hs',set32 hs,set32 hs',get32 hs,get32 hs',hmx,put32 hs hs']<;>with_reducible rfl));(case hf=>(simp only [go_sem]<;>with_reducible rfl));(case hH=>(simp));(case hk=>(simp)))|(apply aLH_keep hT;(·rfl);(·rfl);(·rfl);(·simp (disch:=first|omega|(simp only [go_sem];omega)) only [go_sem,seval,hs,hs',drop32 hs,drop32 hs',set32 hs,set32 hs',get32 hs,get32 hs',hmx,put32 hs hs']);(·simp (disch:=first|omega|(simp only [go_sem];omega)) only [go_sem,seval,hs,hs',drop32 hs,drop32 hs',set32 hs,set32 hs',get32 hs,get32 hs',hmx,put32 hs hs']<;>with_reducible rfl);(·simp (disch:=first|omega|(simp only [go_sem];omega)) only [go_sem,seval,hs,hs',drop32 hs,drop32 hs',set32 hs,set32 hs',get32 hs,get32 hs',hmx,put32 hs hs']<;>with_reducible rfl);(·with_reducible rfl);(·simp only [go_sem]<;>with_reducible rfl))|fail)
 repeat' (first|refine aC_seq ?_|refine aC_reg rfl ?_|refine aC_skip ?_|refine aC_ret ?_|refine thenQ_normal ?_|refine thenQ_ret ?_|refine aL_nil ?_|(apply aL_step;(·exact True.intro);(iterate 2 (·simp (disch:=first|omega|(simp only [go_sem];omega)) only [go_sem,seval,hs,hs',drop32 hs,drop32 hs',set32 hs,set32 hs',get32 hs,get32 hs',hmx,put32 hs hs',putCells_cons0]<;>with_reducible rfl));(·simp only [go_sem]<;>with_reducible rfl))|(refine aL_skip ?_ (by simp only [go_sem]<;>with_reducible rfl) ?_;(·simp (disch:=first|omega|(simp only [go_sem];omega)) only [go_sem,seval,hs,hs',drop32 hs,drop32 hs',set32 hs,set32 hs',get32 hs,get32 hs',hmx,put32 hs hs',putCells_cons0]))|(apply aL_guardN;(·simp (disch:=first|omega|(simp only [go_sem];omega)) only [go_sem,seval,hs,hs',drop32 hs,drop32 hs',set32 hs,set32 hs',get32 hs,get32 hs',hmx,put32 hs hs',putCells_cons0]<;>with_reducible rfl);all_goals (intro h;first|(exfalso;omega)|(simp only [h,decide_true,decide_false,not_true,not_false_iff])))|(apply aL_guardP;(·simp (disch:=first|omega|(simp only [go_sem];omega)) only [go_sem,seval,hs,hs',drop32 hs,drop32 hs',set32 hs,set32 hs',get32 hs,get32 hs',hmx,put32 hs hs',putCells_cons0]<;>with_reducible rfl);all_goals (intro h;first|(exfalso;omega)|(simp only [h,decide_true,decide_false,not_true,not_false_iff])))|(refine aC_condT ?_ ?_;(·simp (disch:=first|omega|(simp only [go_sem];omega)) only [go_sem,seval,hs,hs',drop32 hs,drop32 hs',set32 hs,set32 hs',get32 hs,get32 hs',hmx,put32 hs hs',putCells_cons0]))|(refine aC_condF ?_ ?_;(·simp (disch:=first|omega|(simp only [go_sem];omega)) only [go_sem,seval,hs,hs',drop32 hs,drop32 hs',set32 hs,set32 hs',get32 hs,get32 hs',hmx,put32 hs hs',putCells_cons0]))|(refine aC_condP (by simp (disch:=first|omega|(simp only [go_sem];omega)) only [go_sem,seval,hs,hs',drop32 hs,drop32 hs',set32 hs,set32 hs',get32 hs,get32 hs',hmx,put32 hs hs',putCells_cons0]<;>with_reducible rfl) ?_ ?_<;>(intro h;first|(exfalso;omega)|skip))|fail)
 all_goals try (first|exact True.intro|exact not_false|omega|(simp (disch:=first|omega|(simp only [go_sem];omega)) only [go_sem,seval]<;>omega))
 all_goals clear hT
 all_goals try (simp (disch:=first|omega|(simp only [go_sem];omega)) only [go_sem,seval,put32 hs hs'])
 all_goals try simp
 all_goals try omega
 all_goals rw [decide_eq_true (p:=d'.length≤4096) (by omega),Bool.true_and]
 all_goals exact decide_eq_decide.2 (by omega)
theorem rt_unl (Z:ABox) (s:Su) (hs:s.m.length=32) (nd ne lt is:Bool) (T:List AVal) (hTl:T.length≤10000000) (C':List AVal) (hs':C'.length=36) (hone:(∀ x∈C',x.one=true)↔True) (n k k':Nat) (hn:n≤10000000) (hk:k≤5) (hk':k'≤5) (line:List UInt8)
  (hT:∀ x:ABox,(x = .hole∨x = .cells zeroC 45)→ACall cx 64 [.agg (suC s nd ne),.str line,.map 1] (rdS Z s nd ne lt T n k++[x]) (.tup [.agg (C'),.int .i64 (k':Nat),.bool is]) (rdS Z s nd ne lt T n k++[x]))
  (his:is=false) (hgood:¬ Bad n k k') (st:Sp) (bn:Bool) (hx6:st.xs.length=6) (er:Int) (hU:APure cx 9 [.str line] (.tup [.agg (spC st bn .any),.int .i64 er])) :
  ACall cx 42 [.ptr 2 0,.str line] (rdS Z s nd ne lt T n k) (.bool (decide (er=0∧T.length+1≤65536))) (rdS Z s nd ne false (T++[.agg (spC st bn .any)]) (n+1) k'++[.cells (C') 45,.cells (spC st bn .any) 31]):=by
 have hmx:maxI 3 ((k:Nat):Int)=((max 3 k:Nat):Int):=by unfold maxI;split<;>omega
 subst his
 unfold Bad at hgood
 obtain ⟨g,i,m,d,e⟩:=s
 obtain ⟨kk,op,xs,a,w,b⟩:=st
 obtain ⟨x0,x1,x2,x3,x4,x5,rfl⟩:=six hx6
 unfold rdS rdC suC at *
 unfold zeroC at hT
 simp only [spC_six] at *
 refine acall_fnK cxOk Tryz.func42 (fun _=>false) (fe42.q) (by kernel_rfl) (by dsimp only [Tryz.f42,go_sem,seval,liteO,Option.map,List.map];exact .mk _) ?_
 dsimp only [Tryz.f42,frame0,List.zipIdx,List.map,Nat.reduceAdd]
 try simp only [List.getElem?_toArray,List.getElem?_cons_succ,List.getElem?_cons_zero,Option.bind_some]
 repeat' (first|refine aC_seq ?_|refine aC_reg rfl ?_|refine thenQ_normal ?_|refine aL_nil ?_|(apply aL_step;(·exact True.intro);(iterate 2 (·simp (disch:=first|omega|(simp only [go_sem];omega)) only [go_sem,seval]<;>with_reducible rfl));(·simp only [go_sem]<;>with_reducible rfl))|fail)
 refine aC_regH (U:=[(some 15,some 5),(some 20,some 5)]) rfl [(some 15,2),(some 20,2)] [(4,.cells (.int .i64 0 :: .bool false::(bl (List.replicate 32 0)++[.sl 1 true [] .any,.sl 1 true [] .any])) 45)] 1 ?_
 repeat' (first|refine aLH_nil ?_|(apply aLH_step;(·exact True.intro);(·rfl);(·rfl);(·simp (disch:=first|omega|(simp only [go_sem];omega)) only [go_sem,seval,hs,hs',hone,drop32 hs,set32 hs,get32 hs,hmx]);(·simp (disch:=first|omega|(simp only [go_sem];omega)) only [go_sem,seval,hs,hs',hone,drop32 hs,set32 hs,get32 hs,hmx]<;>with_reducible rfl);(·simp only [go_sem]<;>with_reducible rfl);(·(intro b hb;first|(cases hb;done)|(simp (disch:=first|omega|(simp only [go_sem];omega)) only [loadBox,go_sem,seval] at hb;(try injection hb with hb);subst hb;simp))))|(apply aLH_write;(·exact True.intro);(·rfl);(·rfl);(·rfl);(·simp (disch:=first|omega|(simp only [go_sem];omega)) only [go_sem,seval,hs,hs',hone,drop32 hs,set32 hs,get32 hs,hmx]);(·simp (disch:=first|omega|(simp only [go_sem];omega)) only [go_sem,seval,hs,hs',hone,drop32 hs,set32 hs,get32 hs,hmx]<;>with_reducible rfl);(·simp only [go_sem]<;>with_reducible rfl);(·simp);(·simp);(·simp))|(apply aLH_alloc 4;(case hg=>(simp (disch:=first|omega|(simp only [go_sem];omega)) only [go_sem,seval,hs,hs',hone,drop32 hs,set32 hs,get32 hs,hmx]));(case hi=>(simp (disch:=first|omega|(simp only [go_sem];omega)) only [go_sem,seval,hs,hs',hone,drop32 hs,set32 hs,get32 hs,hmx]<;>with_reducible rfl));(case hs=>(simp (disch:=first|omega|(simp only [go_sem];omega)) only [go_sem,seval,hs,hs',hone,drop32 hs,set32 hs,get32 hs,hmx]<;>with_reducible rfl));(case hS=>(simp (disch:=first|omega|(simp only [go_sem];omega)) only [go_sem,seval,hs,hs',hone,drop32 hs,set32 hs,get32 hs,hmx]<;>with_reducible rfl));(case hf=>(simp only [go_sem]<;>with_reducible rfl));(case hH=>(simp));(case hk=>(simp)))|(apply aLH_keep hT;(·rfl);(·rfl);(·rfl);(·simp (disch:=first|omega|(simp only [go_sem];omega)) only [go_sem,seval,hs,hs',hone,drop32 hs,set32 hs,get32 hs,hmx]);(·simp (disch:=first|omega|(simp only [go_sem];omega)) only [go_sem,seval,hs,hs',hone,drop32 hs,set32 hs,get32 hs,hmx]<;>with_reducible rfl);(·simp (disch:=first|omega|(simp only [go_sem];omega)) only [go_sem,seval,hs,hs',hone,drop32 hs,set32 hs,get32 hs,hmx]<;>with_reducible rfl);(·with_reducible rfl);(·simp only [go_sem]<;>with_reducible rfl))|fail)
 repeat' (first|refine aC_seq ?_|refine aC_reg rfl ?_|refine aC_skip ?_|refine aC_ret ?_|refine thenQ_normal ?_|refine aL_nil ?_|(apply aL_step;(·exact True.intro);(iterate 2 (·simp (disch:=first|omega|(simp only [go_sem];omega)) only [go_sem,seval,hs,hs',hone,drop32 hs,set32 hs,get32 hs,hmx,putCells_cons0]<;>with_reducible rfl));(·simp only [go_sem]<;>with_reducible rfl))|(refine aL_skip ?_ (by simp only [go_sem]<;>with_reducible rfl) ?_;(·simp (disch:=first|omega|(simp only [go_sem];omega)) only [go_sem,seval,hs,hs',hone,drop32 hs,set32 hs,get32 hs,hmx,putCells_cons0]))|(apply aL_guardN;(·simp (disch:=first|omega|(simp only [go_sem];omega)) only [go_sem,seval,hs,hs',hone,drop32 hs,set32 hs,get32 hs,hmx,putCells_cons0]<;>with_reducible rfl);all_goals (intro h;first|(exfalso;omega)|(simp only [h,decide_true,decide_false,not_true,not_false_iff])))|(apply aL_guardP;(·simp (disch:=first|omega|(simp only [go_sem];omega)) only [go_sem,seval,hs,hs',hone,drop32 hs,set32 hs,get32 hs,hmx,putCells_cons0]<;>with_reducible rfl);all_goals (intro h;first|(exfalso;omega)|(simp only [h,decide_true,decide_false,not_true,not_false_iff])))|(refine aC_condF ?_ ?_;(·simp (disch:=first|omega|(simp only [go_sem];omega)) only [go_sem,seval,hs,hs',hone,drop32 hs,set32 hs,get32 hs,hmx,putCells_cons0]))|(refine aC_condP (by simp (disch:=first|omega|(simp only [go_sem];omega)) only [go_sem,seval,hs,hs',hone,drop32 hs,set32 hs,get32 hs,hmx,putCells_cons0]<;>with_reducible rfl) ?_ ?_<;>(intro h;first|(exfalso;omega)|skip))|(apply aL_pK cxG (hU);(iterate 2 (·simp (disch:=first|omega|(simp only [go_sem];omega)) only [go_sem,seval,hs,hs',hone,drop32 hs,set32 hs,get32 hs,hmx,putCells_cons0]<;>with_reducible rfl));(·simp only [go_sem]<;>with_reducible rfl);(·simp))|fail)
 all_goals try (first|exact True.intro|exact not_false|omega|(simp (disch:=first|omega|(simp only [go_sem];omega)) only [go_sem,seval]<;>omega))
 all_goals clear hT hU
 all_goals try (simp (disch:=first|omega|(simp only [go_sem];omega)) only [go_sem,seval])
 all_goals try simp
 all_goals try omega
end
end Go.Am
end
section
namespace Go.Am
open Go Go.Proofs
set_option maxHeartbeats 8000000
set_option maxRecDepth 100000
section
attribute [local irreducible] aC aL thenQ blockQ scopeQ ALoop AWp
theorem say_bel (n:Nat):belB n (.mp SAY 6)=true:=rfl
theorem rdS_bel {n:Nat} (hn:4≤n) {Z:ABox} (hZ:belB n Z=true) (s:Su) (nd ne lt:Bool) (l:List (Sp × Bool)) (m k:Nat):belS n (rdS Z s nd ne lt (sts l) m k)=true:=by
 have h3:Nat.blt 3 n=true:=blt_iff.2 (by omega)
 have h1:Nat.blt 1 n=true:=blt_iff.2 (by omega)
 unfold rdS rdC
 show (belB n Z&&(belB n (.mp SAY 6)&&(belB n _&&(belB n _&&true))))=true
 rw [hZ,say_bel]
 simp [belB,belF,bel,bels,bels_append',bels_bytes',bels_dgs,bels_wl,bels_sts,belT,h1,h3]
def rdP (Z:ABox) (p:Ps) (n:Nat):St:=rdS Z p.s p.s.d.isEmpty p.s.e.isEmpty p.l.isEmpty (sts (stl p.l)) n p.rank
theorem drop_tail {C:Cx} (hG:GClosed C) {f:FuncId} {args:List AVal} {r:AVal} {S S' R:St} {n:Nat} (h:ACall C f args S r (S'++R)) (hS:S.length=n) (hS':S'.length=n) (hr:bel n r=true) (hb:belS n S'=true):ACall C f args S r S':=by
 have e:(S'++R).take n=S':=by subst hS';simp
 have q:=ACall.drop hG h (n:=n) (by omega) hr (by rw [e];exact hb)
 rwa [e] at q
theorem app_nd (y:Sl) (s:Su):y.nd s.d.isEmpty=(y.app s).d.isEmpty:=by cases y<;>simp [Sl.nd,Sl.app]
theorem app_ne (y:Sl) (s:Su):y.ne s.e.isEmpty=(y.app s).e.isEmpty:=by cases y<;>simp [Sl.ne,Sl.app]
theorem reader_take (Z:ABox) (hZ:∀ n,4≤n→belB n Z=true) (p:Ps) (hp:p.Ok) (n:Nat) (hn:n≤10000000) (x:List UInt8) (hx:x.length≤100000) :
  (∀ p',stepP n p x=some p'→ACall cx 42 [.ptr 2 0,.str x] (rdP Z p n) (.bool true) (rdP Z p' (n+1))) ∧
  (stepP n p x=none→∃ C k,ACall cx 42 [.ptr 2 0,.str x] (rdP Z p n) (.bool false) [Z,.mp SAY 6,.cells C 93,.grow k 11 31]):=by
 have hr5:=hp.r5
 have hd4:=hp.d4
 have he4:=hp.e4
 have hl6:=hp.l6
 have hb5:∀ x:ABox,(x = .hole∨x = .cells zeroC 45)→belS 5 (rdP Z p n++[x])=true:=fun x hx=>by
  rw [belS_app,Bool.and_eq_true]
  refine ⟨rdS_bel (by decide) (hZ 5 (by decide)) _ _ _ _ _ _ _,?_⟩
  rcases hx with rfl|rfl
  ·rfl
  ·rfl
 have hT:=fun (r:AVal) hr (z:ABox) hz=>script_take (rdP Z p n++[z]) 1 5 rfl rfl (hb5 z hz) (by decide) x hx p.s hp.su.m32 p.s.d.isEmpty p.s.e.isEmpty (fun h=>List.isEmpty_iff.1 h) (fun h=>List.isEmpty_iff.1 h) (by omega) (by omega) r hr
 have hTl:(sts (stl p.l)).length≤10000000:=by rw [length_sts,length_stl];omega
 have hm:=hp.su.m32
 rcases slOf_cases x with ⟨y,hy,e⟩|⟨hno,e⟩
 ·have hT':=hT _ (.inl ⟨y,hy,rfl⟩)
  unfold tookR at hT'
  have hm':(y.app p.s).m.length=32:=(app_ok hy.1 hp.su).m32
  have hy4:=y.rank_le
  by_cases hbad:Bad n p.rank y.rank
  ·have k:=rt_bad Z p.s hm _ _ p.l.isEmpty true (sts (stl p.l)) (suC (y.app p.s) _ _) (suC_len _ _ _ hm') (one_suC _ _ _) n p.rank y.rank hn hr5 (by omega) x hT' hbad
   have k:=drop_tail (n:=4) cxG k rfl rfl rfl (rdS_bel (by decide) (hZ 4 (by decide)) _ _ _ _ _ _ _)
   refine ⟨fun p' h=>?_,fun _=>⟨_,_,k⟩⟩
   unfold stepP at h
   rw [e] at h
   simp only [stepW,if_pos hbad] at h
   cases h
  ·have k:=rt_set Z p.s (y.app p.s) hm hm' _ _ _ _ p.l.isEmpty true (sts (stl p.l)) n p.rank y.rank hn hr5 (by omega) x hT' rfl hbad
   have k:=drop_tail (n:=4) cxG k rfl rfl rfl (rdS_bel (by decide) (hZ 4 (by decide)) _ _ _ _ _ _ _)
   rw [app_nd,app_ne] at k
   unfold stepP
   rw [e]
   simp only [stepW,if_neg hbad]
   by_cases hle:(y.app p.s).d.length≤4096∧(y.app p.s).e.length≤4096
   ·rw [if_pos hle]
    rw [decide_eq_true hle] at k
    refine ⟨fun p' h=>?_,fun h=>by cases h⟩
    obtain rfl:=Option.some.inj h
    exact k
   ·rw [if_neg hle]
    rw [decide_eq_false hle] at k
    exact ⟨fun p' h=>(by cases h),fun _=>⟨_,_,k⟩⟩
 ·have hT':=hT _ (.inr ⟨hno,rfl⟩)
  by_cases h3:n<3
  ·have k:=rt_bad Z p.s hm _ _ p.l.isEmpty false (sts (stl p.l)) zeroC rfl one_zeroC n p.rank 5 hn hr5 (by omega) x hT' (.inl ⟨h3,by omega⟩)
   have k:=drop_tail (n:=4) cxG k rfl rfl rfl (rdS_bel (by decide) (hZ 4 (by decide)) _ _ _ _ _ _ _)
   refine ⟨fun p' h=>?_,fun _=>⟨_,_,k⟩⟩
   unfold stepP at h
   rw [e] at h
   simp only [stepW,if_pos h3] at h
   cases h
  ·have hgood:¬ Bad n p.rank 5:=fun h=>by
    rcases h with h|h
    ·exact h3 h.1
    ·omega
   rcases stOf_cases x with ⟨st,hst,e2⟩|⟨hst,e2⟩
   ·have hU:=script_Unline x hx _ (.inl ⟨st,hst,rfl⟩)
    have k:=rt_unl Z p.s hm _ _ p.l.isEmpty false (sts (stl p.l)) hTl zeroC rfl one_zeroC n p.rank 5 hn hr5 (by omega) x hT' rfl hgood st _ hst.2.1.x6 0 hU
    have hsn:sts (stl p.l)++[.agg (spC st st.b.isEmpty .any)]=sts (stl (p.l++[st])):=by rw [stl_snoc,sts_snoc]
    rw [hsn] at k
    have k:=drop_tail (n:=4) cxG k rfl rfl rfl (rdS_bel (by decide) (hZ 4 (by decide)) _ _ _ _ _ _ _)
    unfold stepP
    rw [e,e2]
    simp only [stepW,if_neg h3]
    by_cases hle:p.l.length<65536
    ·rw [if_pos hle]
     rw [decide_eq_true ⟨rfl,by rw [length_sts,length_stl];omega⟩] at k
     refine ⟨fun p' h=>?_,fun h=>by cases h⟩
     obtain rfl:=Option.some.inj h
     unfold rdP
     simp only
     rw [show (p.l++[st]).isEmpty=false by simp]
     exact k
    ·rw [if_neg hle]
     rw [decide_eq_false (fun h=>hle (by have:=h.2;rw [length_sts,length_stl] at this;omega))] at k
     exact ⟨fun p' h=>(by cases h),fun _=>⟨_,_,k⟩⟩
   ·have hU:=script_Unline x hx _ (.inr ⟨hst,rfl⟩)
    have k:=rt_unl Z p.s hm _ _ p.l.isEmpty false (sts (stl p.l)) hTl zeroC rfl one_zeroC n p.rank 5 hn hr5 (by omega) x hT' rfl hgood Sp.zero true rfl 4 hU
    have hsn:sts (stl p.l)++[.agg (spC Sp.zero true .any)]=sts (stl (p.l++[Sp.zero])):=by rw [stl_snoc,sts_snoc];rfl
    rw [hsn] at k
    have k:=drop_tail (n:=4) cxG k rfl rfl rfl (rdS_bel (by decide) (hZ 4 (by decide)) _ _ _ _ _ _ _)
    rw [decide_eq_false (fun h=>absurd h.1 (by decide))] at k
    unfold stepP
    rw [e,e2]
    simp only [stepW,if_neg h3]
    exact ⟨fun p' h=>(by cases h),fun _=>⟨_,_,k⟩⟩
end
end Go.Am
end
