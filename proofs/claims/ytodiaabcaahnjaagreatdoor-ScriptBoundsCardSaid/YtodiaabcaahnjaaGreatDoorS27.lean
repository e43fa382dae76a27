/- What a setup's line makes of a setup: sayings' functions, last. -/
import Derived.Test.YtodiaabcaahnjaaGreatDoorAmWalkE
import Derived.Test.YtodiaabcaahnjaaGreatDoorAmDeep
set_option linter.unusedVariables false
set_option linter.unusedSimpArgs false
section
namespace Go.Am
open Go Go.Proofs
set_option maxHeartbeats 8000000
set_option maxRecDepth 100000
section
attribute [local irreducible] aC aL thenQ blockQ scopeQ ALoop AWp
theorem putCells_pre {a r cs:List AVal} (h:a.length=cs.length):putCells (a++r) 0 cs=cs++r:=by
 rw [putCells_eq cs (a++r) 0 (by simp;omega),Nat.zero_add,← h]
 simp
theorem append_dgs (d:List (List UInt8)) (x:List UInt8):dgs d++[.agg (bl x)]=dgs (d++[x]):=by simp [dgs]
theorem append_wlx (d:List Nat) (x:Nat):wl d++[.int .u64 (x:Nat)]=wl (d++[x]):=by simp [wl]
attribute [go_sem] putCells_pre append_dgs append_wlx
def Z32:List UInt8:=List.replicate 32 0
def dOf (r:List UInt8):Option (List UInt8):=if goodp r=true∧(unpre r).length=32 then some (unpre r) else none
def nOf (r:List UInt8):Nat:=(puP r).getD 0
def dOr (r:List UInt8):List UInt8:=(dOf r).getD Z32
theorem dOr_len (r:List UInt8):(dOr r).length=32:=by
 unfold dOr dOf
 split
 ·next h=>exact h.2
 ·rfl
theorem say_hex (r:List UInt8) (hr:r.length≤1048576):APure cx 84 [.str r] (.tup [.agg (bl (dOr r)),.bool (dOf r).isSome]):=by
 have hu:=wire_unhex r hr
 unfold dOr dOf
 by_cases h1:goodp r=true
 case' neg =>
  rw [if_neg h1] at hu
  rw [if_neg (show ¬ (goodp r=true∧(unpre r).length=32) from fun h=>h1 h.1)]
  have h3:True:=trivial
 case' pos =>
  rw [if_pos h1] at hu
  by_cases h2:(unpre r).length=32
  case' pos =>
   rw [if_pos ⟨h1,h2⟩]
   have h3:((unpre r).length:Int)=32:=by omega
   have hne:(unpre r).isEmpty=false:=by cases h:unpre r;rw [h] at h2;cases h2;rfl
   rw [hne] at hu
   generalize unpre r=U at *
  case' neg =>
   rw [if_neg (show ¬ (goodp r=true∧(unpre r).length=32) from fun h=>h2 h.2)]
   have h3:¬ ((unpre r).length:Int)=32:=by omega
   generalize unpre r=U at *
   generalize U.isEmpty=ue at *
 all_goals
 simp only [Option.getD_some,Option.getD_none,Option.isSome_some,Option.isSome_none,Z32]
 refine pure_fnK cxOk Tryz.func84 (fun _=>false) (fe84.q) (by kernel_rfl) (by dsimp only [Tryz.f84,go_sem,seval,liteO,Option.map,List.map];exact .mk _) ?_
 dsimp only [Tryz.f84,frame0,List.zipIdx,List.map,Nat.reduceAdd]
 try simp only [List.getElem?_toArray,List.getElem?_cons_succ,List.getElem?_cons_zero,Option.bind_some]
 repeat' (first|refine aC_seq ?_|refine aC_reg rfl ?_|refine aC_skip ?_|refine aC_ret ?_|refine thenQ_normal ?_|refine thenQ_ret ?_|refine aL_nil ?_|(apply aL_step;(·exact True.intro);(iterate 2 (·simp (disch:=first|omega|(simp only [go_sem];omega)) only [go_sem,seval,h3,eq_self_iff_true,decide_true,decide_false,not_true_eq_false,not_false_eq_true,Bool.not_true,Bool.not_false]<;>with_reducible rfl));(·simp only [go_sem]<;>with_reducible rfl))|(refine aL_skip ?_ (by simp only [go_sem]<;>with_reducible rfl) ?_;(·simp (disch:=first|omega|(simp only [go_sem];omega)) only [go_sem,seval,h3,eq_self_iff_true,decide_true,decide_false,not_true_eq_false,not_false_eq_true,Bool.not_true,Bool.not_false]))|(refine aC_condT ?_ ?_;(·simp (disch:=first|omega|(simp only [go_sem];omega)) only [go_sem,seval,h3,eq_self_iff_true,decide_true,decide_false,not_true_eq_false,not_false_eq_true,Bool.not_true,Bool.not_false]))|(refine aC_condF ?_ ?_;(·simp (disch:=first|omega|(simp only [go_sem];omega)) only [go_sem,seval,h3,eq_self_iff_true,decide_true,decide_false,not_true_eq_false,not_false_eq_true,Bool.not_true,Bool.not_false]))|(apply aL_pK cxG (hu);(iterate 2 (·simp (disch:=first|omega|(simp only [go_sem];omega)) only [go_sem,seval,h3,eq_self_iff_true,decide_true,decide_false,not_true_eq_false,not_false_eq_true,Bool.not_true,Bool.not_false]<;>with_reducible rfl));(·simp only [go_sem]<;>with_reducible rfl);(·simp))|fail)
 all_goals try (first|exact True.intro|exact not_false|omega|(simp (disch:=first|omega|(simp only [go_sem];omega)) only [go_sem,seval]<;>omega))
 all_goals clear hu
 all_goals try (simp (disch:=first|omega|(simp only [go_sem];omega)) only [go_sem,seval])
 all_goals try simp
 all_goals first|omega|kernel_rfl
theorem say_mode (s:Su) (hs:s.m.length=32) (nd ne b:Bool) (r:List UInt8) :
  APure cx 86 [.agg (suC s nd ne),.str r,.cptr [.bool b]] (.tup [.agg (suC { s with i:=b } nd ne),.bool (decide (r=[]))]):=by
 obtain ⟨g,i,m,d,e⟩:=s
 unfold suC
 simp only at *
 refine pure_fnD cxOk Tryz.func86 (fun _=>false) (fe86.q) (by kernel_rfl) (by dsimp only [Tryz.f86,go_sem,seval,liteO,Option.map,List.map];exact .mk _) ?_
 dsimp only [Tryz.f86,frame0,List.zipIdx,List.map,Nat.reduceAdd]
 try simp only [List.getElem?_toArray,List.getElem?_cons_succ,List.getElem?_cons_zero,Option.bind_some]
 repeat' (first|refine aC_seq ?_|refine aC_reg rfl ?_|refine aC_ret ?_|refine thenQ_normal ?_|refine aL_nil ?_|(apply aL_step;(·exact True.intro);(iterate 2 (·simp (disch:=first|omega|(simp only [go_sem];omega)) only [go_sem,seval]<;>with_reducible rfl));(·simp only [go_sem]<;>with_reducible rfl))|fail)
 all_goals try (first|exact True.intro|exact not_false|omega|(simp (disch:=first|omega|(simp only [go_sem];omega)) only [go_sem,seval]<;>omega))
 all_goals try (simp (disch:=first|omega|(simp only [go_sem];omega)) only [go_sem,seval])
 all_goals try simp
 all_goals try omega
theorem say_gran (s:Su) (hs:s.m.length=32) (nd ne:Bool) (r:List UInt8) (hr:r.length≤1048576) :
  APure cx 87 [.agg (suC s nd ne),.str r] (.tup [.agg (suC { s with g:=((min (nOf r) 4096:Nat):Int) } nd ne),.bool (decide (1≤nOf r∧nOf r≤4096))]):=by
 have hn:=script_number r hr
 obtain ⟨g,i,m,d,e⟩:=s
 unfold suC nOf
 simp only at *
 generalize (puP r).getD 0=n at *
 by_cases h1:1≤n
 case' neg=>rw [decide_eq_false (fun h=>h1 h.1)];rw [show min n 4096=n by omega]
 case' pos =>
  by_cases h2:n≤4096
  case' pos=>rw [decide_eq_true ⟨h1,h2⟩];rw [show min n 4096=n by omega]
  case' neg=>rw [decide_eq_false (fun h=>h2 h.2)];rw [show min n 4096=4096 by omega]
 all_goals
 refine pure_fnD cxOk Tryz.func87 (fun _=>false) (fe87.q) (by kernel_rfl) (by dsimp only [Tryz.f87,go_sem,seval,liteO,Option.map,List.map];exact .mk _) ?_
 dsimp only [Tryz.f87,frame0,List.zipIdx,List.map,Nat.reduceAdd]
 try simp only [List.getElem?_toArray,List.getElem?_cons_succ,List.getElem?_cons_zero,Option.bind_some]
 repeat' (first|refine aC_seq ?_|refine aC_reg rfl ?_|refine aC_ret ?_|refine thenQ_normal ?_|refine aL_nil ?_|(apply aL_step;(·exact True.intro);(iterate 2 (·simp (disch:=first|omega|(simp only [go_sem];omega)) only [go_sem,seval]<;>with_reducible rfl));(·simp only [go_sem]<;>with_reducible rfl))|(refine aL_skip ?_ (by simp only [go_sem]<;>with_reducible rfl) ?_;(·simp (disch:=first|omega|(simp only [go_sem];omega)) only [go_sem,seval]))|(apply aL_guardP;(·simp (disch:=first|omega|(simp only [go_sem];omega)) only [go_sem,seval]<;>with_reducible rfl);all_goals (intro h;first|(exfalso;omega)|(simp only [h,decide_true,decide_false,not_true,not_false_iff])))|(apply aL_pK cxG (hn);(iterate 2 (·simp (disch:=first|omega|(simp only [go_sem];omega)) only [go_sem,seval]<;>with_reducible rfl));(·simp only [go_sem]<;>with_reducible rfl);(·simp))|fail)
 all_goals try (first|exact True.intro|exact not_false|omega|(simp (disch:=first|omega|(simp only [go_sem];omega)) only [go_sem,seval]<;>omega))
 all_goals clear hn
 all_goals try (simp (disch:=first|omega|(simp only [go_sem];omega)) only [go_sem,seval])
 all_goals try simp
 all_goals try omega
theorem say_master (s:Su) (hs:s.m.length=32) (nd ne:Bool) (r:List UInt8) (hr:r.length≤1048576) :
  APure cx 88 [.agg (suC s nd ne),.str r,.cptr [.fn (.func 84) [] []]] (.tup [.agg (suC { s with m:=dOr r } nd ne),.bool (dOf r).isSome]):=by
 have hh:=say_hex r hr
 have hl:=dOr_len r
 obtain ⟨g,i,m,d,e⟩:=s
 unfold suC
 simp only at *
 generalize (dOf r).isSome=ok at *
 generalize dOr r=D at *
 refine pure_fnD cxOk Tryz.func88 (fun _=>false) (fe88.q) (by kernel_rfl) (by dsimp only [Tryz.f88,go_sem,seval,liteO,Option.map,List.map];exact .mk _) ?_
 dsimp only [Tryz.f88,frame0,List.zipIdx,List.map,Nat.reduceAdd]
 try simp only [List.getElem?_toArray,List.getElem?_cons_succ,List.getElem?_cons_zero,Option.bind_some]
 repeat' (first|refine aC_seq ?_|refine aC_reg rfl ?_|refine aC_ret ?_|refine thenQ_normal ?_|refine aL_nil ?_|(apply aL_step;(·exact True.intro);(iterate 2 (·simp (disch:=first|omega|(simp only [go_sem];omega)) only [go_sem,seval]<;>with_reducible rfl));(·simp only [go_sem]<;>with_reducible rfl))|(apply aL_pure cxG (hh);(case hg=>(simp (disch:=first|omega|(simp only [go_sem];omega)) only [go_sem,seval]));(case hx=>(simp (disch:=first|omega|(simp only [go_sem];omega)) only [go_sem,seval]<;>with_reducible rfl));(case ha=>(simp (disch:=first|omega|(simp only [go_sem];omega)) only [go_sem,seval]<;>with_reducible rfl));(case he=>(simp only [go_sem]<;>with_reducible rfl));(case hcl=>(simp));(case hf=>(simp only [go_sem]<;>with_reducible rfl)))|fail)
 all_goals try (first|exact True.intro|exact not_false|omega|(simp (disch:=first|omega|(simp only [go_sem];omega)) only [go_sem,seval]<;>omega))
 all_goals clear hh
 all_goals try (simp (disch:=first|omega|(simp only [go_sem];omega)) only [go_sem,seval])
 all_goals try simp
 all_goals try omega
theorem clone_dg0 (d:List (List UInt8)) (hd:d.length≤1048576):ACall cx 65 [.sl 32 false (dgs d) .any] [] (.sl 32 false (dgs d) (.grow 0)) [.grow d.length 32 41]:=by
 have hfx:∀ k:Nat,0+k=k:=Nat.zero_add
 refine acall_fnK cxOk Tryz.func65 (fun _=>false) (fe65.q) (by kernel_rfl) (by dsimp only [Tryz.f65,go_sem,seval,liteO,Option.map,List.map];exact .mk _) ?_
 dsimp only [Tryz.f65,frame0,List.zipIdx,List.map,Nat.reduceAdd]
 try simp only [List.getElem?_toArray,List.getElem?_cons_succ,List.getElem?_cons_zero,Option.bind_some]
 repeat' (first|refine aC_seq ?_|refine aC_reg rfl ?_|refine aC_skip ?_|refine aC_ret ?_|refine thenQ_normal ?_|refine aL_nil ?_|(apply aL_step;(·exact True.intro);(iterate 2 (·simp (disch:=first|omega|(simp only [go_sem];omega)) only [go_sem,seval]<;>with_reducible rfl));(·simp only [go_sem]<;>with_reducible rfl))|(refine aC_condF ?_ ?_;(·simp (disch:=first|omega|(simp only [go_sem];omega)) only [go_sem,seval]))|fail)
 all_goals try (first|exact True.intro|exact not_false|omega|(simp (disch:=first|omega|(simp only [go_sem];omega)) only [go_sem,seval]<;>omega))
 all_goals try (simp (disch:=first|omega|(simp only [go_sem];omega)) only [go_sem,seval])
 all_goals try simp
 all_goals try omega
theorem clone_dg (d:List (List UInt8)) (hd:d.length≤1048576) (S:St):ACall cx 65 [.sl 32 false (dgs d) .any] S (.sl 32 false (dgs d) (.grow S.length)) (S++[.grow d.length 32 41]):=by
 have h:=clone_dg0 d hd
 rw [← length_dgs d] at h
 have:=ACall.freshGr cxG (xs:=dgs d) (t:=41) (i:=0) h rfl (fun x hx c hc=>by
  obtain ⟨b,_,rfl⟩:=List.mem_map.1 hx
  exact (plain_bl b).2 trivial c hc) (by simp [bels,bel,bels_dgs,belT]) S
 rwa [length_dgs] at this
theorem clone_dgN:APure cx 65 [.sl 32 true [] .any] (.sl 1 true [] .any):=by
 refine pure_fnK cxOk Tryz.func65 (fun _=>false) (fe65.q) (by kernel_rfl) (by dsimp only [Tryz.f65,go_sem,seval,liteO,Option.map,List.map];exact .mk _) ?_
 dsimp only [Tryz.f65,frame0,List.zipIdx,List.map,Nat.reduceAdd]
 try simp only [List.getElem?_toArray,List.getElem?_cons_succ,List.getElem?_cons_zero,Option.bind_some]
 repeat' (first|refine aC_seq ?_|refine aC_reg rfl ?_|refine aC_ret ?_|refine thenQ_normal ?_|refine thenQ_ret ?_|refine aL_nil ?_|(apply aL_step;(·exact True.intro);(iterate 2 (·simp (disch:=first|omega|(simp only [go_sem];omega)) only [go_sem,seval]<;>with_reducible rfl));(·simp only [go_sem]<;>with_reducible rfl))|(refine aC_condT ?_ ?_;(·simp (disch:=first|omega|(simp only [go_sem];omega)) only [go_sem,seval]))|fail)
 all_goals try (first|exact True.intro|exact not_false|omega|(simp (disch:=first|omega|(simp only [go_sem];omega)) only [go_sem,seval]<;>omega))
 all_goals try (simp (disch:=first|omega|(simp only [go_sem];omega)) only [go_sem,seval])
 all_goals try simp
theorem clone_wl0 (d:List Nat) (hd:d.length≤1048576):ACall cx 66 [.sl 1 false (wl d) .any] [] (.sl 1 false (wl d) (.grow 0)) [.grow d.length 1 25]:=by
 refine acall_fnK cxOk Tryz.func66 (fun _=>false) (fe66.q) (by kernel_rfl) (by dsimp only [Tryz.f66,go_sem,seval,liteO,Option.map,List.map];exact .mk _) ?_
 dsimp only [Tryz.f66,frame0,List.zipIdx,List.map,Nat.reduceAdd]
 try simp only [List.getElem?_toArray,List.getElem?_cons_succ,List.getElem?_cons_zero,Option.bind_some]
 repeat' (first|refine aC_seq ?_|refine aC_reg rfl ?_|refine aC_skip ?_|refine aC_ret ?_|refine thenQ_normal ?_|refine aL_nil ?_|(apply aL_step;(·exact True.intro);(iterate 2 (·simp (disch:=first|omega|(simp only [go_sem];omega)) only [go_sem,seval]<;>with_reducible rfl));(·simp only [go_sem]<;>with_reducible rfl))|(refine aC_condF ?_ ?_;(·simp (disch:=first|omega|(simp only [go_sem];omega)) only [go_sem,seval]))|fail)
 all_goals try (first|exact True.intro|exact not_false|omega|(simp (disch:=first|omega|(simp only [go_sem];omega)) only [go_sem,seval]<;>omega))
 all_goals try (simp (disch:=first|omega|(simp only [go_sem];omega)) only [go_sem,seval])
 all_goals try simp
 all_goals try omega
theorem clone_wl (d:List Nat) (hd:d.length≤1048576) (S:St):ACall cx 66 [.sl 1 false (wl d) .any] S (.sl 1 false (wl d) (.grow S.length)) (S++[.grow d.length 1 25]):=by
 have h:=clone_wl0 d hd
 have:=ACall.freshGr cxG (xs:=wl d) (t:=25) (i:=0) h (by simp) (fun x hx c hc=>by
  obtain ⟨b,_,rfl⟩:=List.mem_map.1 hx
  rw [List.mem_singleton.1 hc]
  exact .int _ _) (by simp [bels,bel,bels_wl,belT]) S
 rwa [length_wl] at this
theorem clone_wlN:APure cx 66 [.sl 1 true [] .any] (.sl 1 true [] .any):=by
 refine pure_fnK cxOk Tryz.func66 (fun _=>false) (fe66.q) (by kernel_rfl) (by dsimp only [Tryz.f66,go_sem,seval,liteO,Option.map,List.map];exact .mk _) ?_
 dsimp only [Tryz.f66,frame0,List.zipIdx,List.map,Nat.reduceAdd]
 try simp only [List.getElem?_toArray,List.getElem?_cons_succ,List.getElem?_cons_zero,Option.bind_some]
 repeat' (first|refine aC_seq ?_|refine aC_reg rfl ?_|refine aC_ret ?_|refine thenQ_normal ?_|refine thenQ_ret ?_|refine aL_nil ?_|(apply aL_step;(·exact True.intro);(iterate 2 (·simp (disch:=first|omega|(simp only [go_sem];omega)) only [go_sem,seval]<;>with_reducible rfl));(·simp only [go_sem]<;>with_reducible rfl))|(refine aC_condT ?_ ?_;(·simp (disch:=first|omega|(simp only [go_sem];omega)) only [go_sem,seval]))|fail)
 all_goals try (first|exact True.intro|exact not_false|omega|(simp (disch:=first|omega|(simp only [go_sem];omega)) only [go_sem,seval]<;>omega))
 all_goals try (simp (disch:=first|omega|(simp only [go_sem];omega)) only [go_sem,seval])
 all_goals try simp
end
end Go.Am
end
section
namespace Go.Am
open Go Go.Proofs
set_option maxHeartbeats 8000000
set_option maxRecDepth 100000
inductive Sl
 |gran (n:Nat)
 |mode (b:Bool)
 |master (m:List UInt8)
 |draw (m:List UInt8)
 |ent (n:Nat)
deriving DecidableEq
def Sl.rank:Sl→Nat
 |.gran _=>0
 |.mode _=>1
 |.master _=>2
 |.draw _=>3
 |.ent _=>4
def Sl.word:Sl→List UInt8
 |.gran _=>GRAN
 |.mode b=>modeT b
 |.master _=>MASTER
 |.draw _=>DRAW
 |.ent _=>ENTR
def Sl.text:Sl→List UInt8
 |.gran n=>numT GRAN [n]
 |.mode b=>modeT b
 |.master m=>digT MASTER m
 |.draw m=>digT DRAW m
 |.ent n=>entT n
def Sl.Ok:Sl→Prop
 |.gran n=>1≤n∧n≤4096
 |.mode _=>True
 |.master m=>m.length=32
 |.draw m=>m.length=32
 |.ent n=>n<18446744073709551616
def Sl.app (x:Sl) (s:Su):Su:=match x with
 |.gran n=>{ s with g:=(n:Int) }
 |.mode b=>{ s with i:=b }
 |.master m=>{ s with m:=m }
 |.draw m=>{ s with d:=s.d++[m] }
 |.ent n=>{ s with e:=s.e++[n] }
def Sl.nd (x:Sl) (nd:Bool):Bool:=match x with
 |.draw _=>false
 |_=>nd
def Sl.ne (x:Sl) (ne:Bool):Bool:=match x with
 |.ent _=>false
 |_=>ne
def IsSl (l:List UInt8) (x:Sl):Prop:=x.Ok∧x.text=l
theorem numT_one (w:List UInt8) (n:Nat):numT w [n]=w++32::Lib.decDigits n:=by simp [numT]
theorem modeT_no (b:Bool):(32:UInt8) ∉ modeT b:=by cases b<;>decide
theorem sl_cut {l:List UInt8} {x:Sl} (h:IsSl l x):Lib.cut l [32]=match x with
  |.gran n=>(GRAN,Lib.decDigits n,true)
  |.mode b=>(modeT b,[],false)
  |.master m=>(MASTER,hexl m,true)
  |.draw m=>(DRAW,hexl m,true)
  |.ent n=>(ENTR,Lib.decDigits n,true):=by
 obtain ⟨_,rfl⟩:=h
 cases x with
 |gran n=>simp only [Sl.text,numT_one];exact cut_hit _ _ (by decide)
 |mode b=>exact cut_miss _ (modeT_no b)
 |master m=>exact cut_hit _ _ (by decide)
 |draw m=>exact cut_hit _ _ (by decide)
 |ent n=>simp only [Sl.text,entT,numT_one];exact cut_hit _ _ (by decide)
theorem dOf_hex (m:List UInt8) (h:m.length=32):dOf (hexl m)=some m:=by
 obtain ⟨g1,g2,_⟩:=hexl_ok m
 unfold dOf
 rw [if_pos ⟨g1,by rw [g2];exact h⟩,g2]
theorem dOr_hex (m:List UInt8) (h:m.length=32):dOr (hexl m)=m:=by unfold dOr;rw [dOf_hex m h];rfl
theorem nOf_dec (n:Nat) (h:n<18446744073709551616):nOf (Lib.decDigits n)=n:=by unfold nOf;rw [puP_dec n h];rfl
theorem nOf_lt (r:List UInt8):nOf r<18446744073709551616:=by
 unfold nOf
 cases h:puP r with
 |none=>decide
 |some v=>exact puP_lt h
def candW (w r:List UInt8):Option Sl :=
 if w=GRAN then some (.gran (nOf r)) else if w=modeT true then some (.mode true) else if w=modeT false then some (.mode false)
 else if w=MASTER then some (.master (dOr r)) else if w=DRAW then some (.draw (dOr r)) else if w=ENTR then some (.ent (nOf r)) else none
def candS (l:List UInt8):Option Sl:=candW (Lib.cut l [32]).1 (Lib.cut l [32]).2.1
theorem sl_cand {l:List UInt8} {x:Sl} (h:IsSl l x):candS l=some x:=by
 have hc:=sl_cut h
 have ho:=h.1
 unfold candS
 cases x with
 |gran n=>rw [hc];simp only [candW,if_true];rw [nOf_dec n (by have:=ho.2;omega)]
 |mode b=>rw [hc];cases b<;>rfl
 |master m=>rw [hc];show some (Sl.master (dOr (hexl m)))=_;rw [dOr_hex m ho]
 |draw m=>rw [hc];show some (Sl.draw (dOr (hexl m)))=_;rw [dOr_hex m ho]
 |ent n=>rw [hc];show some (Sl.ent (nOf (Lib.decDigits n)))=_;rw [nOf_dec n ho]
theorem sl_unique {l:List UInt8} {x y:Sl} (h:IsSl l x) (k:IsSl l y):x=y:=Option.some.inj ((sl_cand h).symm.trans (sl_cand k))
end Go.Am
end
section
namespace Go.Am
open Go Go.Proofs
set_option maxHeartbeats 8000000
set_option maxRecDepth 100000
section
attribute [local irreducible] aC aL thenQ blockQ scopeQ ALoop AWp
theorem dgs_nil:dgs []=[]:=rfl
theorem wlx_nil:wl []=[]:=rfl
theorem putCells_one (bs:List AVal) (k:Nat) (z:AVal):putCells bs k [z]=bs.set k z:=rfl
theorem setElems32 (x:AVal) (l:List UInt8) (h:l.length=32):setElems 32 [x] [(0,.agg (bl l))]=some [.agg (bl l)]:=by simp [setElems,AVal.cells,h]
attribute [go_sem] dgs_nil wlx_nil putCells_one setElems32
theorem say_ent (s:Su) (hs:s.m.length=32) (nd ne:Bool) (hne:ne=true→s.e=[]) (hl:s.e.length≤100000) (r:List UInt8) (hr:r.length≤1048576) :
  APure cx 90 [.agg (suC s nd ne),.str r] (.tup [.agg (suC { s with e:=s.e++[nOf r] } nd false),.bool true]):=by
 have hn:=script_number r hr
 obtain ⟨g,i,m,d,e⟩:=s
 unfold suC nOf
 simp only at *
 generalize (puP r).getD 0=n at *
 cases ne
 case' false=>have hc:=clone_wl e (by omega) [.cells (.int .i64 g :: .bool i::(bl m++[.sl 32 nd (dgs d) .any,.sl 1 false (wl e) .any])) 45,.cells (.int .i64 0 :: .bool false::(bl (List.replicate 32 0)++[.sl 1 true [] .any,.sl 1 true [] .any])) 45]
 case' true =>
  obtain rfl:=hne rfl
  have hc:=clone_wlN
  simp only [wlx_nil,List.nil_append]
 all_goals
 refine pure_fnD cxOk Tryz.func90 (fun _=>false) (fe90.q) (by kernel_rfl) (by dsimp only [Tryz.f90,go_sem,seval,liteO,Option.map,List.map];exact .mk _) ?_
 dsimp only [Tryz.f90,frame0,List.zipIdx,List.map,Nat.reduceAdd]
 try simp only [List.getElem?_toArray,List.getElem?_cons_succ,List.getElem?_cons_zero,Option.bind_some]
 repeat' (first|refine aC_seq ?_|refine aC_reg rfl ?_|refine aC_ret ?_|refine thenQ_normal ?_|refine aL_nil ?_|(apply aL_step;(·exact True.intro);(iterate 2 (·simp (disch:=first|omega|(simp only [go_sem];omega)) only [go_sem,seval]<;>with_reducible rfl));(·simp only [go_sem]<;>with_reducible rfl))|(apply aL_pK cxG (hn);(iterate 2 (·simp (disch:=first|omega|(simp only [go_sem];omega)) only [go_sem,seval]<;>with_reducible rfl));(·simp only [go_sem]<;>with_reducible rfl);(·simp))|(apply aL_pK cxG (hc);(iterate 2 (·simp (disch:=first|omega|(simp only [go_sem];omega)) only [go_sem,seval]<;>with_reducible rfl));(·simp only [go_sem]<;>with_reducible rfl);(·simp))|(apply aL_aK (hc);(·rfl);(iterate 2 (·simp (disch:=first|omega|(simp only [go_sem];omega)) only [go_sem,seval]<;>with_reducible rfl));(·simp only [go_sem]<;>with_reducible rfl))|fail)
 all_goals try (first|exact True.intro|exact not_false|omega|(simp (disch:=first|omega|(simp only [go_sem];omega)) only [go_sem,seval]<;>omega))
 all_goals clear hn hc
 all_goals try (simp (disch:=first|omega|(simp only [go_sem];omega)) only [go_sem,seval])
 all_goals try simp
 all_goals try omega
 all_goals try (exact ⟨by omega,by simp [Wk,wl,dgs]⟩)
theorem say_draw (s:Su) (hs:s.m.length=32) (nd ne:Bool) (hnd:nd=true→s.d=[]) (hl:s.d.length≤100000) (r:List UInt8) (hr:r.length≤1048576) :
  APure cx 89 [.agg (suC s nd ne),.str r,.cptr [.fn (.func 84) [] []]] (.tup [.agg (suC { s with d:=s.d++[dOr r] } false ne),.bool (dOf r).isSome]):=by
 have hh:=say_hex r hr
 have hl2:=dOr_len r
 obtain ⟨g,i,m,d,e⟩:=s
 unfold suC
 simp only at *
 generalize (dOf r).isSome=ok at *
 generalize dOr r=D at *
 cases nd
 case' false=>have hc:=fun S:St=>clone_dg d (by omega) S
 case' true =>
  obtain rfl:=hnd rfl
  have hc:=fun _:St=>clone_dgN
  simp only [dgs_nil,List.nil_append]
 all_goals
 refine pure_fnD cxOk Tryz.func89 (fun _=>false) (fe89.q) (by kernel_rfl) (by dsimp only [Tryz.f89,go_sem,seval,liteO,Option.map,List.map];exact .mk _) ?_
 dsimp only [Tryz.f89,frame0,List.zipIdx,List.map,Nat.reduceAdd]
 try simp only [List.getElem?_toArray,List.getElem?_cons_succ,List.getElem?_cons_zero,Option.bind_some]
 repeat' (first|refine aC_seq ?_|refine aC_reg rfl ?_|refine thenQ_normal ?_|refine aL_nil ?_|(apply aL_step;(·exact True.intro);(iterate 2 (·simp (disch:=first|omega|(simp only [go_sem];omega)) only [go_sem,seval]<;>with_reducible rfl));(·simp only [go_sem]<;>with_reducible rfl))|(apply aL_pure cxG (hh);(case hg=>(simp (disch:=first|omega|(simp only [go_sem];omega)) only [go_sem,seval]));(case hx=>(simp (disch:=first|omega|(simp only [go_sem];omega)) only [go_sem,seval]<;>with_reducible rfl));(case ha=>(simp (disch:=first|omega|(simp only [go_sem];omega)) only [go_sem,seval]<;>with_reducible rfl));(case he=>(simp only [go_sem]<;>with_reducible rfl));(case hcl=>(simp));(case hf=>(simp only [go_sem]<;>with_reducible rfl)))|fail)
 all_goals try (first|exact True.intro|exact not_false|omega|(simp (disch:=first|omega|(simp only [go_sem];omega)) only [go_sem,seval]<;>omega))
 all_goals clear hh
 all_goals try refine aC_regB (U:=[(some 18,some 17)]) rfl [(some 16,0),(some 18,2)] ?_
 all_goals
  repeat' (first|refine aLB_nil ?_|(apply aLB_step;(·exact True.intro);(·exact (by intro h;cases h));(·rfl);(·simp (disch:=first|omega|(simp only [go_sem];omega)) only [go_sem,seval,hl2]);(·simp (disch:=first|omega|(simp only [go_sem];omega)) only [go_sem,seval,hl2]<;>with_reducible rfl);(·simp only [go_sem]<;>with_reducible rfl);(·(intro b hb;first|(cases hb;done)|(simp (disch:=first|omega|(simp only [go_sem];omega)) only [loadBox,go_sem,seval] at hb;(try injection hb with hb);subst hb;simp))))|(apply aLB_write;(·exact True.intro);(·rfl);(·rfl);(·simp (disch:=first|omega|(simp only [go_sem];omega)) only [go_sem,seval,hl2]);(·simp (disch:=first|omega|(simp only [go_sem];omega)) only [go_sem,seval,hl2]<;>with_reducible rfl);(·simp only [go_sem]<;>with_reducible rfl);(·simp))|(apply aLB_pure cxG ((hc []));(case hg=>(simp (disch:=first|omega|(simp only [go_sem];omega)) only [go_sem,seval,hl2]));(case hx=>(simp (disch:=first|omega|(simp only [go_sem];omega)) only [go_sem,seval,hl2]<;>with_reducible rfl));(case ha=>(simp (disch:=first|omega|(simp only [go_sem];omega)) only [go_sem,seval,hl2]<;>with_reducible rfl));(case he=>(simp only [go_sem]<;>with_reducible rfl));(case hcl=>(simp));(case hf=>(simp only [go_sem]<;>with_reducible rfl)))|(apply aLB_acall ((hc _));(case hg=>(simp (disch:=first|omega|(simp only [go_sem];omega)) only [go_sem,seval,hl2]));(case hx=>(simp (disch:=first|omega|(simp only [go_sem];omega)) only [go_sem,seval,hl2]<;>with_reducible rfl));(case ha=>(simp (disch:=first|omega|(simp only [go_sem];omega)) only [go_sem,seval,hl2]<;>with_reducible rfl));(case he=>(with_reducible rfl));(case hp=>(rfl));(case hf=>(simp only [go_sem]<;>with_reducible rfl));(case hk=>(simp)))|fail)
 all_goals
  repeat' (first|refine aC_seq ?_|refine aC_reg rfl ?_|refine aC_ret ?_|refine thenQ_normal ?_|refine aL_nil ?_|(apply aL_step;(·exact True.intro);(iterate 2 (·simp (disch:=first|omega|(simp only [go_sem];omega)) only [go_sem,seval,hl2]<;>with_reducible rfl));(·simp only [go_sem]<;>with_reducible rfl))|fail)
 all_goals clear hc
 all_goals try (simp (disch:=first|omega|(simp only [go_sem];omega)) only [go_sem,seval])
 all_goals try simp
 all_goals try omega
 all_goals try (exact ⟨by omega,by simp [Wk,wl,dgs]⟩)
end
end Go.Am
end
section
namespace Go.Am
open Go Go.Proofs
set_option maxHeartbeats 8000000
set_option maxRecDepth 100000
section
attribute [local irreducible] aC aL thenQ blockQ scopeQ ALoop AWp
theorem nw_GM:(([103,114,97,110,117,108,101,115]:List UInt8)=[109,97,115,116,101,114])=False:=by decide
theorem nw_GD:(([103,114,97,110,117,108,101,115]:List UInt8)=[100,114,97,119])=False:=by decide
theorem nw_GE:(([103,114,97,110,117,108,101,115]:List UInt8)=[101,110,116,114,111,112,121])=False:=by decide
theorem nw_GI:(([103,114,97,110,117,108,101,115]:List UInt8)=[105,100,101,97,108])=False:=by decide
theorem nw_GC:(([103,114,97,110,117,108,101,115]:List UInt8)=[99,111,110,99,114,101,116,101])=False:=by decide
theorem nw_MG:(([109,97,115,116,101,114]:List UInt8)=[103,114,97,110,117,108,101,115])=False:=by decide
theorem nw_MD:(([109,97,115,116,101,114]:List UInt8)=[100,114,97,119])=False:=by decide
theorem nw_ME:(([109,97,115,116,101,114]:List UInt8)=[101,110,116,114,111,112,121])=False:=by decide
theorem nw_MI:(([109,97,115,116,101,114]:List UInt8)=[105,100,101,97,108])=False:=by decide
theorem nw_MC:(([109,97,115,116,101,114]:List UInt8)=[99,111,110,99,114,101,116,101])=False:=by decide
theorem nw_DG:(([100,114,97,119]:List UInt8)=[103,114,97,110,117,108,101,115])=False:=by decide
theorem nw_DM:(([100,114,97,119]:List UInt8)=[109,97,115,116,101,114])=False:=by decide
theorem nw_DE:(([100,114,97,119]:List UInt8)=[101,110,116,114,111,112,121])=False:=by decide
theorem nw_DI:(([100,114,97,119]:List UInt8)=[105,100,101,97,108])=False:=by decide
theorem nw_DC:(([100,114,97,119]:List UInt8)=[99,111,110,99,114,101,116,101])=False:=by decide
theorem nw_EG:(([101,110,116,114,111,112,121]:List UInt8)=[103,114,97,110,117,108,101,115])=False:=by decide
theorem nw_EM:(([101,110,116,114,111,112,121]:List UInt8)=[109,97,115,116,101,114])=False:=by decide
theorem nw_ED:(([101,110,116,114,111,112,121]:List UInt8)=[100,114,97,119])=False:=by decide
theorem nw_EI:(([101,110,116,114,111,112,121]:List UInt8)=[105,100,101,97,108])=False:=by decide
theorem nw_EC:(([101,110,116,114,111,112,121]:List UInt8)=[99,111,110,99,114,101,116,101])=False:=by decide
theorem nw_IG:(([105,100,101,97,108]:List UInt8)=[103,114,97,110,117,108,101,115])=False:=by decide
theorem nw_IM:(([105,100,101,97,108]:List UInt8)=[109,97,115,116,101,114])=False:=by decide
theorem nw_ID:(([105,100,101,97,108]:List UInt8)=[100,114,97,119])=False:=by decide
theorem nw_IE:(([105,100,101,97,108]:List UInt8)=[101,110,116,114,111,112,121])=False:=by decide
theorem nw_IC:(([105,100,101,97,108]:List UInt8)=[99,111,110,99,114,101,116,101])=False:=by decide
theorem nw_CG:(([99,111,110,99,114,101,116,101]:List UInt8)=[103,114,97,110,117,108,101,115])=False:=by decide
theorem nw_CM:(([99,111,110,99,114,101,116,101]:List UInt8)=[109,97,115,116,101,114])=False:=by decide
theorem nw_CD:(([99,111,110,99,114,101,116,101]:List UInt8)=[100,114,97,119])=False:=by decide
theorem nw_CE:(([99,111,110,99,114,101,116,101]:List UInt8)=[101,110,116,114,111,112,121])=False:=by decide
theorem nw_CI:(([99,111,110,99,114,101,116,101]:List UInt8)=[105,100,101,97,108])=False:=by decide
theorem last_gran (s:Su) (hs:s.m.length=32) (nd ne:Bool) (n:Nat) (hn:n≤4096):APure cx 98 [.str GRAN,.agg (suC { s with g:=(n:Int) } nd ne)] (.str (numT GRAN [n])):=by
 have hN:=script_numbers GRAN false [n] (by simp) (by simp [GRAN]) (by simp;omega)
 obtain ⟨g,i,m,d,e⟩:=s
 unfold suC
 simp only [wl,List.map_cons,List.map_nil] at *
 generalize numT GRAN [n]=X at *
 unfold GRAN at *
 refine pure_fnK cxOk Tryz.func98 (fun _=>false) (fe98.q) (by kernel_rfl) (by dsimp only [Tryz.f98,go_sem,seval,liteO,Option.map,List.map];exact .mk _) ?_
 dsimp only [Tryz.f98,frame0,List.zipIdx,List.map,Nat.reduceAdd]
 try simp only [List.getElem?_toArray,List.getElem?_cons_succ,List.getElem?_cons_zero,Option.bind_some]
 repeat' (first|(apply aL_boxI;(case hg=>(simp (disch:=first|omega|(simp only [go_sem];omega)) only [go_sem,seval,nw_GM,nw_GD,nw_GE,nw_GI,nw_GC,nw_MG,nw_MD,nw_ME,nw_MI,nw_MC,nw_DG,nw_DM,nw_DE,nw_DI,nw_DC,nw_EG,nw_EM,nw_ED,nw_EI,nw_EC,nw_IG,nw_IM,nw_ID,nw_IE,nw_IC,nw_CG,nw_CM,nw_CD,nw_CE,nw_CI,eq_self_iff_true,decide_true,decide_false,not_true_eq_false,not_false_eq_true]));(case h=>(simp (disch:=first|omega|(simp only [go_sem];omega)) only [go_sem,seval,nw_GM,nw_GD,nw_GE,nw_GI,nw_GC,nw_MG,nw_MD,nw_ME,nw_MI,nw_MC,nw_DG,nw_DM,nw_DE,nw_DI,nw_DC,nw_EG,nw_EM,nw_ED,nw_EI,nw_EC,nw_IG,nw_IM,nw_ID,nw_IE,nw_IC,nw_CG,nw_CM,nw_CD,nw_CE,nw_CI,eq_self_iff_true,decide_true,decide_false,not_true_eq_false,not_false_eq_true]<;>with_reducible rfl));(case hf=>(simp only [go_sem]<;>with_reducible rfl));(case hs=>(simp (disch:=first|omega|(simp only [go_sem];omega)) only [go_sem,seval,nw_GM,nw_GD,nw_GE,nw_GI,nw_GC,nw_MG,nw_MD,nw_ME,nw_MI,nw_MC,nw_DG,nw_DM,nw_DE,nw_DI,nw_DC,nw_EG,nw_EM,nw_ED,nw_EI,nw_EC,nw_IG,nw_IM,nw_ID,nw_IE,nw_IC,nw_CG,nw_CM,nw_CD,nw_CE,nw_CI,eq_self_iff_true,decide_true,decide_false,not_true_eq_false,not_false_eq_true])))|refine aC_seq ?_|refine aC_reg rfl ?_|refine aC_block ?_|refine aC_ret ?_|refine thenQ_normal ?_|refine thenQ_ret ?_|refine blockQ_ret ?_|refine aL_nil ?_|(apply aL_step;(·exact True.intro);(iterate 2 (·simp (disch:=first|omega|(simp only [go_sem];omega)) only [go_sem,seval,nw_GM,nw_GD,nw_GE,nw_GI,nw_GC,nw_MG,nw_MD,nw_ME,nw_MI,nw_MC,nw_DG,nw_DM,nw_DE,nw_DI,nw_DC,nw_EG,nw_EM,nw_ED,nw_EI,nw_EC,nw_IG,nw_IM,nw_ID,nw_IE,nw_IC,nw_CG,nw_CM,nw_CD,nw_CE,nw_CI,eq_self_iff_true,decide_true,decide_false,not_true_eq_false,not_false_eq_true]<;>with_reducible rfl));(·simp only [go_sem]<;>with_reducible rfl))|(refine aC_condT ?_ ?_;(·simp (disch:=first|omega|(simp only [go_sem];omega)) only [go_sem,seval,nw_GM,nw_GD,nw_GE,nw_GI,nw_GC,nw_MG,nw_MD,nw_ME,nw_MI,nw_MC,nw_DG,nw_DM,nw_DE,nw_DI,nw_DC,nw_EG,nw_EM,nw_ED,nw_EI,nw_EC,nw_IG,nw_IM,nw_ID,nw_IE,nw_IC,nw_CG,nw_CM,nw_CD,nw_CE,nw_CI,eq_self_iff_true,decide_true,decide_false,not_true_eq_false,not_false_eq_true]))|(apply aL_pK cxG (hN);(iterate 2 (·simp (disch:=first|omega|(simp only [go_sem];omega)) only [go_sem,seval,nw_GM,nw_GD,nw_GE,nw_GI,nw_GC,nw_MG,nw_MD,nw_ME,nw_MI,nw_MC,nw_DG,nw_DM,nw_DE,nw_DI,nw_DC,nw_EG,nw_EM,nw_ED,nw_EI,nw_EC,nw_IG,nw_IM,nw_ID,nw_IE,nw_IC,nw_CG,nw_CM,nw_CD,nw_CE,nw_CI,eq_self_iff_true,decide_true,decide_false,not_true_eq_false,not_false_eq_true]<;>with_reducible rfl));(·simp only [go_sem]<;>with_reducible rfl);(·simp))|fail)
 all_goals try (first|exact True.intro|exact not_false|omega|(simp (disch:=first|omega|(simp only [go_sem];omega)) only [go_sem,seval]<;>omega))
 all_goals clear hN
 all_goals try (simp (disch:=first|omega|(simp only [go_sem];omega)) only [go_sem,seval])
 all_goals try simp
theorem last_master (s:Su) (nd ne:Bool) (D:List UInt8) (hD:D.length=32):APure cx 98 [.str MASTER,.agg (suC { s with m:=D } nd ne)] (.str (digT MASTER D)):=by
 have hN:=script_digest MASTER D (by simp [MASTER]) hD
 obtain ⟨g,i,m,d,e⟩:=s
 unfold suC
 simp only at *
 generalize digT MASTER D=X at *
 unfold MASTER at *
 refine pure_fnK cxOk Tryz.func98 (fun _=>false) (fe98.q) (by kernel_rfl) (by dsimp only [Tryz.f98,go_sem,seval,liteO,Option.map,List.map];exact .mk _) ?_
 dsimp only [Tryz.f98,frame0,List.zipIdx,List.map,Nat.reduceAdd]
 try simp only [List.getElem?_toArray,List.getElem?_cons_succ,List.getElem?_cons_zero,Option.bind_some]
 repeat' (first|(apply aL_boxI;(case hg=>(simp (disch:=first|omega|(simp only [go_sem];omega)) only [go_sem,seval,nw_GM,nw_GD,nw_GE,nw_GI,nw_GC,nw_MG,nw_MD,nw_ME,nw_MI,nw_MC,nw_DG,nw_DM,nw_DE,nw_DI,nw_DC,nw_EG,nw_EM,nw_ED,nw_EI,nw_EC,nw_IG,nw_IM,nw_ID,nw_IE,nw_IC,nw_CG,nw_CM,nw_CD,nw_CE,nw_CI,eq_self_iff_true,decide_true,decide_false,not_true_eq_false,not_false_eq_true]));(case h=>(simp (disch:=first|omega|(simp only [go_sem];omega)) only [go_sem,seval,nw_GM,nw_GD,nw_GE,nw_GI,nw_GC,nw_MG,nw_MD,nw_ME,nw_MI,nw_MC,nw_DG,nw_DM,nw_DE,nw_DI,nw_DC,nw_EG,nw_EM,nw_ED,nw_EI,nw_EC,nw_IG,nw_IM,nw_ID,nw_IE,nw_IC,nw_CG,nw_CM,nw_CD,nw_CE,nw_CI,eq_self_iff_true,decide_true,decide_false,not_true_eq_false,not_false_eq_true]<;>with_reducible rfl));(case hf=>(simp only [go_sem]<;>with_reducible rfl));(case hs=>(simp (disch:=first|omega|(simp only [go_sem];omega)) only [go_sem,seval,nw_GM,nw_GD,nw_GE,nw_GI,nw_GC,nw_MG,nw_MD,nw_ME,nw_MI,nw_MC,nw_DG,nw_DM,nw_DE,nw_DI,nw_DC,nw_EG,nw_EM,nw_ED,nw_EI,nw_EC,nw_IG,nw_IM,nw_ID,nw_IE,nw_IC,nw_CG,nw_CM,nw_CD,nw_CE,nw_CI,eq_self_iff_true,decide_true,decide_false,not_true_eq_false,not_false_eq_true])))|refine aC_seq ?_|refine aC_reg rfl ?_|refine aC_block ?_|refine aC_ret ?_|refine thenQ_normal ?_|refine thenQ_ret ?_|refine blockQ_ret ?_|refine aL_nil ?_|(apply aL_step;(·exact True.intro);(iterate 2 (·simp (disch:=first|omega|(simp only [go_sem];omega)) only [go_sem,seval,nw_GM,nw_GD,nw_GE,nw_GI,nw_GC,nw_MG,nw_MD,nw_ME,nw_MI,nw_MC,nw_DG,nw_DM,nw_DE,nw_DI,nw_DC,nw_EG,nw_EM,nw_ED,nw_EI,nw_EC,nw_IG,nw_IM,nw_ID,nw_IE,nw_IC,nw_CG,nw_CM,nw_CD,nw_CE,nw_CI,eq_self_iff_true,decide_true,decide_false,not_true_eq_false,not_false_eq_true]<;>with_reducible rfl));(·simp only [go_sem]<;>with_reducible rfl))|(refine aC_condT ?_ ?_;(·simp (disch:=first|omega|(simp only [go_sem];omega)) only [go_sem,seval,nw_GM,nw_GD,nw_GE,nw_GI,nw_GC,nw_MG,nw_MD,nw_ME,nw_MI,nw_MC,nw_DG,nw_DM,nw_DE,nw_DI,nw_DC,nw_EG,nw_EM,nw_ED,nw_EI,nw_EC,nw_IG,nw_IM,nw_ID,nw_IE,nw_IC,nw_CG,nw_CM,nw_CD,nw_CE,nw_CI,eq_self_iff_true,decide_true,decide_false,not_true_eq_false,not_false_eq_true]))|(refine aC_condF ?_ ?_;(·simp (disch:=first|omega|(simp only [go_sem];omega)) only [go_sem,seval,nw_GM,nw_GD,nw_GE,nw_GI,nw_GC,nw_MG,nw_MD,nw_ME,nw_MI,nw_MC,nw_DG,nw_DM,nw_DE,nw_DI,nw_DC,nw_EG,nw_EM,nw_ED,nw_EI,nw_EC,nw_IG,nw_IM,nw_ID,nw_IE,nw_IC,nw_CG,nw_CM,nw_CD,nw_CE,nw_CI,eq_self_iff_true,decide_true,decide_false,not_true_eq_false,not_false_eq_true]))|(apply aL_pK cxG (hN);(iterate 2 (·simp (disch:=first|omega|(simp only [go_sem];omega)) only [go_sem,seval,nw_GM,nw_GD,nw_GE,nw_GI,nw_GC,nw_MG,nw_MD,nw_ME,nw_MI,nw_MC,nw_DG,nw_DM,nw_DE,nw_DI,nw_DC,nw_EG,nw_EM,nw_ED,nw_EI,nw_EC,nw_IG,nw_IM,nw_ID,nw_IE,nw_IC,nw_CG,nw_CM,nw_CD,nw_CE,nw_CI,eq_self_iff_true,decide_true,decide_false,not_true_eq_false,not_false_eq_true]<;>with_reducible rfl));(·simp only [go_sem]<;>with_reducible rfl);(·simp))|fail)
 all_goals try (first|exact True.intro|exact not_false|omega|(simp (disch:=first|omega|(simp only [go_sem];omega)) only [go_sem,seval]<;>omega))
 all_goals clear hN
 all_goals try (simp (disch:=first|omega|(simp only [go_sem];omega)) only [go_sem,seval])
 all_goals try simp
theorem last_mode (s:Su) (hs:s.m.length=32) (nd ne b:Bool):APure cx 98 [.str (modeT b),.agg (suC s nd ne)] (.str (modeT b)):=by
 obtain ⟨g,i,m,d,e⟩:=s
 unfold suC
 simp only at *
 cases b
 all_goals
 simp only [modeT,Bool.false_eq_true,if_true,if_false]
 refine pure_fnK cxOk Tryz.func98 (fun _=>false) (fe98.q) (by kernel_rfl) (by dsimp only [Tryz.f98,go_sem,seval,liteO,Option.map,List.map];exact .mk _) ?_
 dsimp only [Tryz.f98,frame0,List.zipIdx,List.map,Nat.reduceAdd]
 try simp only [List.getElem?_toArray,List.getElem?_cons_succ,List.getElem?_cons_zero,Option.bind_some]
 repeat' (first|(apply aL_boxI;(case hg=>(simp (disch:=first|omega|(simp only [go_sem];omega)) only [go_sem,seval,nw_GM,nw_GD,nw_GE,nw_GI,nw_GC,nw_MG,nw_MD,nw_ME,nw_MI,nw_MC,nw_DG,nw_DM,nw_DE,nw_DI,nw_DC,nw_EG,nw_EM,nw_ED,nw_EI,nw_EC,nw_IG,nw_IM,nw_ID,nw_IE,nw_IC,nw_CG,nw_CM,nw_CD,nw_CE,nw_CI,eq_self_iff_true,decide_true,decide_false,not_true_eq_false,not_false_eq_true]));(case h=>(simp (disch:=first|omega|(simp only [go_sem];omega)) only [go_sem,seval,nw_GM,nw_GD,nw_GE,nw_GI,nw_GC,nw_MG,nw_MD,nw_ME,nw_MI,nw_MC,nw_DG,nw_DM,nw_DE,nw_DI,nw_DC,nw_EG,nw_EM,nw_ED,nw_EI,nw_EC,nw_IG,nw_IM,nw_ID,nw_IE,nw_IC,nw_CG,nw_CM,nw_CD,nw_CE,nw_CI,eq_self_iff_true,decide_true,decide_false,not_true_eq_false,not_false_eq_true]<;>with_reducible rfl));(case hf=>(simp only [go_sem]<;>with_reducible rfl));(case hs=>(simp (disch:=first|omega|(simp only [go_sem];omega)) only [go_sem,seval,nw_GM,nw_GD,nw_GE,nw_GI,nw_GC,nw_MG,nw_MD,nw_ME,nw_MI,nw_MC,nw_DG,nw_DM,nw_DE,nw_DI,nw_DC,nw_EG,nw_EM,nw_ED,nw_EI,nw_EC,nw_IG,nw_IM,nw_ID,nw_IE,nw_IC,nw_CG,nw_CM,nw_CD,nw_CE,nw_CI,eq_self_iff_true,decide_true,decide_false,not_true_eq_false,not_false_eq_true])))|refine aC_seq ?_|refine aC_reg rfl ?_|refine aC_block ?_|refine aC_skip ?_|refine aC_ret ?_|refine thenQ_normal ?_|refine blockQ_normal ?_|refine aL_nil ?_|(apply aL_step;(·exact True.intro);(iterate 2 (·simp (disch:=first|omega|(simp only [go_sem];omega)) only [go_sem,seval,nw_GM,nw_GD,nw_GE,nw_GI,nw_GC,nw_MG,nw_MD,nw_ME,nw_MI,nw_MC,nw_DG,nw_DM,nw_DE,nw_DI,nw_DC,nw_EG,nw_EM,nw_ED,nw_EI,nw_EC,nw_IG,nw_IM,nw_ID,nw_IE,nw_IC,nw_CG,nw_CM,nw_CD,nw_CE,nw_CI,eq_self_iff_true,decide_true,decide_false,not_true_eq_false,not_false_eq_true]<;>with_reducible rfl));(·simp only [go_sem]<;>with_reducible rfl))|(refine aC_condF ?_ ?_;(·simp (disch:=first|omega|(simp only [go_sem];omega)) only [go_sem,seval,nw_GM,nw_GD,nw_GE,nw_GI,nw_GC,nw_MG,nw_MD,nw_ME,nw_MI,nw_MC,nw_DG,nw_DM,nw_DE,nw_DI,nw_DC,nw_EG,nw_EM,nw_ED,nw_EI,nw_EC,nw_IG,nw_IM,nw_ID,nw_IE,nw_IC,nw_CG,nw_CM,nw_CD,nw_CE,nw_CI,eq_self_iff_true,decide_true,decide_false,not_true_eq_false,not_false_eq_true]))|fail)
 all_goals try (first|exact True.intro|exact not_false|omega|(simp (disch:=first|omega|(simp only [go_sem];omega)) only [go_sem,seval]<;>omega))
 all_goals try (simp (disch:=first|omega|(simp only [go_sem];omega)) only [go_sem,seval])
 all_goals try simp
 all_goals try omega
theorem last_draw (s:Su) (hs:s.m.length=32) (nd ne:Bool) (D:List UInt8) (hD:D.length=32) (hl:s.d.length≤100000):APure cx 98 [.str DRAW,.agg (suC { s with d:=s.d++[D] } nd ne)] (.str (digT DRAW D)):=by
 have hN:=script_digest DRAW D (by simp [DRAW]) hD
 obtain ⟨g,i,m,d,e⟩:=s
 have hg:=getD_dgs (d++[D]) d.length .any (by simp)
 have hq:(d++[D])[d.length]'(by simp)=D:=by simp
 rw [hq] at hg
 clear hq
 have hl2:(d++[D]).length=d.length+1:=by simp
 unfold suC
 simp only at *
 generalize d++[D]=dd at *
 generalize digT DRAW D=X at *
 unfold DRAW at *
 have e1:(dd.length:Int)-1=(d.length:Int):=by omega
 refine pure_fnK cxOk Tryz.func98 (fun _=>false) (fe98.q) (by kernel_rfl) (by dsimp only [Tryz.f98,go_sem,seval,liteO,Option.map,List.map];exact .mk _) ?_
 dsimp only [Tryz.f98,frame0,List.zipIdx,List.map,Nat.reduceAdd]
 try simp only [List.getElem?_toArray,List.getElem?_cons_succ,List.getElem?_cons_zero,Option.bind_some]
 repeat' (first|(apply aL_boxI;(case hg=>(simp (disch:=first|omega|(simp only [go_sem];omega)) only [go_sem,seval,nw_GM,nw_GD,nw_GE,nw_GI,nw_GC,nw_MG,nw_MD,nw_ME,nw_MI,nw_MC,nw_DG,nw_DM,nw_DE,nw_DI,nw_DC,nw_EG,nw_EM,nw_ED,nw_EI,nw_EC,nw_IG,nw_IM,nw_ID,nw_IE,nw_IC,nw_CG,nw_CM,nw_CD,nw_CE,nw_CI,eq_self_iff_true,decide_true,decide_false,not_true_eq_false,not_false_eq_true,e1,hg]));(case h=>(simp (disch:=first|omega|(simp only [go_sem];omega)) only [go_sem,seval,nw_GM,nw_GD,nw_GE,nw_GI,nw_GC,nw_MG,nw_MD,nw_ME,nw_MI,nw_MC,nw_DG,nw_DM,nw_DE,nw_DI,nw_DC,nw_EG,nw_EM,nw_ED,nw_EI,nw_EC,nw_IG,nw_IM,nw_ID,nw_IE,nw_IC,nw_CG,nw_CM,nw_CD,nw_CE,nw_CI,eq_self_iff_true,decide_true,decide_false,not_true_eq_false,not_false_eq_true,e1,hg]<;>with_reducible rfl));(case hf=>(simp only [go_sem]<;>with_reducible rfl));(case hs=>(simp (disch:=first|omega|(simp only [go_sem];omega)) only [go_sem,seval,nw_GM,nw_GD,nw_GE,nw_GI,nw_GC,nw_MG,nw_MD,nw_ME,nw_MI,nw_MC,nw_DG,nw_DM,nw_DE,nw_DI,nw_DC,nw_EG,nw_EM,nw_ED,nw_EI,nw_EC,nw_IG,nw_IM,nw_ID,nw_IE,nw_IC,nw_CG,nw_CM,nw_CD,nw_CE,nw_CI,eq_self_iff_true,decide_true,decide_false,not_true_eq_false,not_false_eq_true,e1,hg])))|refine aC_seq ?_|refine aC_reg rfl ?_|refine aC_block ?_|refine aC_ret ?_|refine thenQ_normal ?_|refine thenQ_ret ?_|refine blockQ_ret ?_|refine aL_nil ?_|(apply aL_step;(·exact True.intro);(iterate 2 (·simp (disch:=first|omega|(simp only [go_sem];omega)) only [go_sem,seval,nw_GM,nw_GD,nw_GE,nw_GI,nw_GC,nw_MG,nw_MD,nw_ME,nw_MI,nw_MC,nw_DG,nw_DM,nw_DE,nw_DI,nw_DC,nw_EG,nw_EM,nw_ED,nw_EI,nw_EC,nw_IG,nw_IM,nw_ID,nw_IE,nw_IC,nw_CG,nw_CM,nw_CD,nw_CE,nw_CI,eq_self_iff_true,decide_true,decide_false,not_true_eq_false,not_false_eq_true,e1,hg]<;>with_reducible rfl));(·simp only [go_sem]<;>with_reducible rfl))|(refine aC_condT ?_ ?_;(·simp (disch:=first|omega|(simp only [go_sem];omega)) only [go_sem,seval,nw_GM,nw_GD,nw_GE,nw_GI,nw_GC,nw_MG,nw_MD,nw_ME,nw_MI,nw_MC,nw_DG,nw_DM,nw_DE,nw_DI,nw_DC,nw_EG,nw_EM,nw_ED,nw_EI,nw_EC,nw_IG,nw_IM,nw_ID,nw_IE,nw_IC,nw_CG,nw_CM,nw_CD,nw_CE,nw_CI,eq_self_iff_true,decide_true,decide_false,not_true_eq_false,not_false_eq_true,e1,hg]))|(refine aC_condF ?_ ?_;(·simp (disch:=first|omega|(simp only [go_sem];omega)) only [go_sem,seval,nw_GM,nw_GD,nw_GE,nw_GI,nw_GC,nw_MG,nw_MD,nw_ME,nw_MI,nw_MC,nw_DG,nw_DM,nw_DE,nw_DI,nw_DC,nw_EG,nw_EM,nw_ED,nw_EI,nw_EC,nw_IG,nw_IM,nw_ID,nw_IE,nw_IC,nw_CG,nw_CM,nw_CD,nw_CE,nw_CI,eq_self_iff_true,decide_true,decide_false,not_true_eq_false,not_false_eq_true,e1,hg]))|(apply aL_pK cxG (hN);(iterate 2 (·simp (disch:=first|omega|(simp only [go_sem];omega)) only [go_sem,seval,nw_GM,nw_GD,nw_GE,nw_GI,nw_GC,nw_MG,nw_MD,nw_ME,nw_MI,nw_MC,nw_DG,nw_DM,nw_DE,nw_DI,nw_DC,nw_EG,nw_EM,nw_ED,nw_EI,nw_EC,nw_IG,nw_IM,nw_ID,nw_IE,nw_IC,nw_CG,nw_CM,nw_CD,nw_CE,nw_CI,eq_self_iff_true,decide_true,decide_false,not_true_eq_false,not_false_eq_true,e1,hg]<;>with_reducible rfl));(·simp only [go_sem]<;>with_reducible rfl);(·simp))|fail)
 all_goals try (first|exact True.intro|exact not_false|omega|(simp (disch:=first|omega|(simp only [go_sem];omega)) only [go_sem,seval]<;>omega))
 all_goals clear hN
 all_goals try (simp (disch:=first|omega|(simp only [go_sem];omega)) only [go_sem,seval])
 all_goals try simp
 all_goals try omega
theorem last_ent (s:Su) (hs:s.m.length=32) (nd ne:Bool) (n:Nat) (hn:n<18446744073709551616) (hl:s.e.length≤100000):APure cx 98 [.str ENTR,.agg (suC { s with e:=s.e++[n] } nd ne)] (.str (entT n)):=by
 have hN:=script_numbers ENTR false [n] (by simp) (by simp [ENTR]) (by simpa using hn)
 obtain ⟨g,i,m,d,e⟩:=s
 have hg:=getD_wlx (e++[n]) e.length .any (by simp)
 have hq:(e++[n])[e.length]'(by simp)=n:=by simp
 rw [hq] at hg
 clear hq
 have hl2:(e++[n]).length=e.length+1:=by simp
 unfold suC
 simp only [entT] at *
 generalize e++[n]=dd at *
 simp only [show wl [n]=[.int .u64 (n:Nat)] from rfl] at hN
 generalize numT ENTR [n]=X at *
 unfold ENTR at *
 have e1:(dd.length:Int)-1=(e.length:Int):=by omega
 refine pure_fnK cxOk Tryz.func98 (fun _=>false) (fe98.q) (by kernel_rfl) (by dsimp only [Tryz.f98,go_sem,seval,liteO,Option.map,List.map];exact .mk _) ?_
 dsimp only [Tryz.f98,frame0,List.zipIdx,List.map,Nat.reduceAdd]
 try simp only [List.getElem?_toArray,List.getElem?_cons_succ,List.getElem?_cons_zero,Option.bind_some]
 repeat' (first|(apply aL_boxI;(case hg=>(simp (disch:=first|omega|(simp only [go_sem];omega)) only [go_sem,seval,nw_GM,nw_GD,nw_GE,nw_GI,nw_GC,nw_MG,nw_MD,nw_ME,nw_MI,nw_MC,nw_DG,nw_DM,nw_DE,nw_DI,nw_DC,nw_EG,nw_EM,nw_ED,nw_EI,nw_EC,nw_IG,nw_IM,nw_ID,nw_IE,nw_IC,nw_CG,nw_CM,nw_CD,nw_CE,nw_CI,eq_self_iff_true,decide_true,decide_false,not_true_eq_false,not_false_eq_true,e1,hg]));(case h=>(simp (disch:=first|omega|(simp only [go_sem];omega)) only [go_sem,seval,nw_GM,nw_GD,nw_GE,nw_GI,nw_GC,nw_MG,nw_MD,nw_ME,nw_MI,nw_MC,nw_DG,nw_DM,nw_DE,nw_DI,nw_DC,nw_EG,nw_EM,nw_ED,nw_EI,nw_EC,nw_IG,nw_IM,nw_ID,nw_IE,nw_IC,nw_CG,nw_CM,nw_CD,nw_CE,nw_CI,eq_self_iff_true,decide_true,decide_false,not_true_eq_false,not_false_eq_true,e1,hg]<;>with_reducible rfl));(case hf=>(simp only [go_sem]<;>with_reducible rfl));(case hs=>(simp (disch:=first|omega|(simp only [go_sem];omega)) only [go_sem,seval,nw_GM,nw_GD,nw_GE,nw_GI,nw_GC,nw_MG,nw_MD,nw_ME,nw_MI,nw_MC,nw_DG,nw_DM,nw_DE,nw_DI,nw_DC,nw_EG,nw_EM,nw_ED,nw_EI,nw_EC,nw_IG,nw_IM,nw_ID,nw_IE,nw_IC,nw_CG,nw_CM,nw_CD,nw_CE,nw_CI,eq_self_iff_true,decide_true,decide_false,not_true_eq_false,not_false_eq_true,e1,hg])))|refine aC_seq ?_|refine aC_reg rfl ?_|refine aC_block ?_|refine aC_ret ?_|refine thenQ_normal ?_|refine thenQ_ret ?_|refine blockQ_ret ?_|refine aL_nil ?_|(apply aL_step;(·exact True.intro);(iterate 2 (·simp (disch:=first|omega|(simp only [go_sem];omega)) only [go_sem,seval,nw_GM,nw_GD,nw_GE,nw_GI,nw_GC,nw_MG,nw_MD,nw_ME,nw_MI,nw_MC,nw_DG,nw_DM,nw_DE,nw_DI,nw_DC,nw_EG,nw_EM,nw_ED,nw_EI,nw_EC,nw_IG,nw_IM,nw_ID,nw_IE,nw_IC,nw_CG,nw_CM,nw_CD,nw_CE,nw_CI,eq_self_iff_true,decide_true,decide_false,not_true_eq_false,not_false_eq_true,e1,hg]<;>with_reducible rfl));(·simp only [go_sem]<;>with_reducible rfl))|(refine aC_condT ?_ ?_;(·simp (disch:=first|omega|(simp only [go_sem];omega)) only [go_sem,seval,nw_GM,nw_GD,nw_GE,nw_GI,nw_GC,nw_MG,nw_MD,nw_ME,nw_MI,nw_MC,nw_DG,nw_DM,nw_DE,nw_DI,nw_DC,nw_EG,nw_EM,nw_ED,nw_EI,nw_EC,nw_IG,nw_IM,nw_ID,nw_IE,nw_IC,nw_CG,nw_CM,nw_CD,nw_CE,nw_CI,eq_self_iff_true,decide_true,decide_false,not_true_eq_false,not_false_eq_true,e1,hg]))|(refine aC_condF ?_ ?_;(·simp (disch:=first|omega|(simp only [go_sem];omega)) only [go_sem,seval,nw_GM,nw_GD,nw_GE,nw_GI,nw_GC,nw_MG,nw_MD,nw_ME,nw_MI,nw_MC,nw_DG,nw_DM,nw_DE,nw_DI,nw_DC,nw_EG,nw_EM,nw_ED,nw_EI,nw_EC,nw_IG,nw_IM,nw_ID,nw_IE,nw_IC,nw_CG,nw_CM,nw_CD,nw_CE,nw_CI,eq_self_iff_true,decide_true,decide_false,not_true_eq_false,not_false_eq_true,e1,hg]))|(apply aL_pK cxG (hN);(iterate 2 (·simp (disch:=first|omega|(simp only [go_sem];omega)) only [go_sem,seval,nw_GM,nw_GD,nw_GE,nw_GI,nw_GC,nw_MG,nw_MD,nw_ME,nw_MI,nw_MC,nw_DG,nw_DM,nw_DE,nw_DI,nw_DC,nw_EG,nw_EM,nw_ED,nw_EI,nw_EC,nw_IG,nw_IM,nw_ID,nw_IE,nw_IC,nw_CG,nw_CM,nw_CD,nw_CE,nw_CI,eq_self_iff_true,decide_true,decide_false,not_true_eq_false,not_false_eq_true,e1,hg]<;>with_reducible rfl));(·simp only [go_sem]<;>with_reducible rfl);(·simp))|fail)
 all_goals try (first|exact True.intro|exact not_false|omega|(simp (disch:=first|omega|(simp only [go_sem];omega)) only [go_sem,seval]<;>omega))
 all_goals clear hN
 all_goals try (simp (disch:=first|omega|(simp only [go_sem];omega)) only [go_sem,seval])
 all_goals try simp
 all_goals try omega
end
end Go.Am
end
