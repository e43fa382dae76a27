/- Steps (chapter 25): numbers, which steps may be, their lines: script's and the document's. -/
import Derived.Test.YtodiaabcaahnjaaGreatDoorP01
import Derived.Test.YtodiaabcaahnjaaGreatDoorP07
import Derived.Test.YtodiaabcaahnjaaGreatDoorL06
set_option linter.unusedVariables false
set_option linter.unusedSimpArgs false
section
namespace Go.Am
open Go Go.Proofs
set_option maxHeartbeats 8000000
set_option maxRecDepth 100000
section
attribute [local irreducible] aC aL thenQ blockQ scopeQ ALoop AWp
theorem PLS_0:placeOf cx.T ⟨(.struct #[⟨ "Kind", 23,0,false, "", "", 0⟩,⟨ "Call", 28,1,false, "", "", 8⟩,⟨ "Addr", 25,8,false, "", "", 64⟩,⟨ "Word", 25,9,false, "", "", 72⟩,⟨ "Bytes", 29,10,false, "", "", 80⟩]),11,104,[(.int .i64 0),(.int .i64 0),(.int .u64 0),(.int .u64 0),(.int .u64 0),(.int .u64 0),(.int .u64 0),(.int .u64 0),(.int .u64 0),(.int .u64 0),(.sl 1 true [] .any)]⟩ 0=some (0,1):=by kernel_rfl
attribute [go_sem] PLS_0
theorem PLS_1:placeOf cx.T ⟨(.struct #[⟨ "Kind", 23,0,false, "", "", 0⟩,⟨ "Call", 28,1,false, "", "", 8⟩,⟨ "Addr", 25,8,false, "", "", 64⟩,⟨ "Word", 25,9,false, "", "", 72⟩,⟨ "Bytes", 29,10,false, "", "", 80⟩]),11,104,[(.int .i64 0),(.int .i64 0),(.int .u64 0),(.int .u64 0),(.int .u64 0),(.int .u64 0),(.int .u64 0),(.int .u64 0),(.int .u64 0),(.int .u64 0),(.sl 1 true [] .any)]⟩ 1=some (1,7):=by kernel_rfl
attribute [go_sem] PLS_1
theorem PLS_2:placeOf cx.T ⟨(.struct #[⟨ "Kind", 23,0,false, "", "", 0⟩,⟨ "Call", 28,1,false, "", "", 8⟩,⟨ "Addr", 25,8,false, "", "", 64⟩,⟨ "Word", 25,9,false, "", "", 72⟩,⟨ "Bytes", 29,10,false, "", "", 80⟩]),11,104,[(.int .i64 0),(.int .i64 0),(.int .u64 0),(.int .u64 0),(.int .u64 0),(.int .u64 0),(.int .u64 0),(.int .u64 0),(.int .u64 0),(.int .u64 0),(.sl 1 true [] .any)]⟩ 2=some (8,1):=by kernel_rfl
attribute [go_sem] PLS_2
theorem PLS_3:placeOf cx.T ⟨(.struct #[⟨ "Kind", 23,0,false, "", "", 0⟩,⟨ "Call", 28,1,false, "", "", 8⟩,⟨ "Addr", 25,8,false, "", "", 64⟩,⟨ "Word", 25,9,false, "", "", 72⟩,⟨ "Bytes", 29,10,false, "", "", 80⟩]),11,104,[(.int .i64 0),(.int .i64 0),(.int .u64 0),(.int .u64 0),(.int .u64 0),(.int .u64 0),(.int .u64 0),(.int .u64 0),(.int .u64 0),(.int .u64 0),(.sl 1 true [] .any)]⟩ 3=some (9,1):=by kernel_rfl
attribute [go_sem] PLS_3
theorem PLS_4:placeOf cx.T ⟨(.struct #[⟨ "Kind", 23,0,false, "", "", 0⟩,⟨ "Call", 28,1,false, "", "", 8⟩,⟨ "Addr", 25,8,false, "", "", 64⟩,⟨ "Word", 25,9,false, "", "", 72⟩,⟨ "Bytes", 29,10,false, "", "", 80⟩]),11,104,[(.int .i64 0),(.int .i64 0),(.int .u64 0),(.int .u64 0),(.int .u64 0),(.int .u64 0),(.int .u64 0),(.int .u64 0),(.int .u64 0),(.int .u64 0),(.sl 1 true [] .any)]⟩ 4=some (10,1):=by kernel_rfl
attribute [go_sem] PLS_4
def numT (w:List UInt8) (l:List Nat):List UInt8:=w++l.flatMap fun n=>32::Lib.decDigits n
theorem numT_snoc (w:List UInt8) (l:List Nat) (n:Nat):numT w (l++[n])=numT w l++(32::Lib.decDigits n):=by simp [numT]
theorem numT_len (w:List UInt8) (l:List Nat) (h:∀ x∈l,x<18446744073709551616):(numT w l).length≤w.length+21*l.length:=by
 have:=tail_len h
 unfold numT
 rw [List.length_append]
 omega
theorem script_numbers (w:List UInt8) (nl:Bool) (l:List Nat) (hl:l.length≤100) (hw:w.length≤100) (h:∀ x∈l,x<18446744073709551616) :
  APure cx 61 [.str w,.sl 1 nl (wl l) .any] (.str (numT w l)):=by
 have hml:maxLen=9223372036854775807:=rfl
 refine pure_fnK cxOk Tryz.func61 (fun _=>false) (fun _=>none) (by kernel_rfl) (by dsimp only [Tryz.f61,go_sem,seval,liteO,Option.map,List.map];exact .mk _) ?_
 dsimp only [Tryz.f61,frame0,List.zipIdx,List.map,Nat.reduceAdd]
 try simp only [List.getElem?_toArray,List.getElem?_cons_succ,List.getElem?_cons_zero,Option.bind_some]
 repeat' (first|refine aC_seq ?_|refine aC_reg rfl ?_|refine aC_block ?_|refine aC_loop ?_|refine thenQ_normal ?_|refine aL_nil ?_|(apply aL_step;(·exact True.intro);(iterate 2 (·simp (disch:=omega) only [go_sem,seval]<;>with_reducible rfl));(·simp only [go_sem]<;>with_reducible rfl))|fail)
 ·refine loop_rule (cxOk.wp _ _) (σ:=Nat) (fun k=>[(9,.int .i64 k),(8,.int .i64 l.length),(7,.sl 1 nl (wl l) .any),(0,.str (numT w (l.take k)))])
   (fun _=>[]) (fun k=>l.length-k) (fun k=>k≤l.length) 0 (GStep.refl _ _) ⟨Nat.zero_le _,Sub.of_all (by simp [Fr.get,numT]),rfl⟩ ?_
  intro k hk
  have htl:=numT_len w (l.take k) (fun x hx=>h x (List.mem_of_mem_take hx))
  have htk:(l.take k).length≤100:=by rw [List.length_take];omega
  by_cases hlt:k<l.length
  ·have hkw:=h (l.getD k 0) (by simp [List.getD,hlt])
   have hf:=a_fmt (l.getD k 0) hkw
   have hfl:=dec_len (l.getD k 0) hkw
   have ht:numT w (l.take (k+1))=numT w (l.take k)++([32]++Lib.decDigits (l.getD k 0)):=by
    rw [List.take_succ_eq_append_getElem hlt,numT_snoc]
    simp [List.getD,hlt]
   generalize hX':numT w (l.take (k+1))=X' at *
   generalize numT w (l.take k)=X at *
   generalize Lib.decDigits (l.getD k 0)=D at *
   repeat' (first|refine aC_seq ?_|refine aC_reg rfl ?_|refine aC_block ?_|refine aC_skip ?_|refine thenQ_normal ?_|refine blockQ_normal ?_|refine aL_nil ?_|(apply aL_step;(·exact True.intro);(iterate 2 (·simp (disch:=omega) only [go_sem,seval]<;>with_reducible rfl));(·simp only [go_sem]<;>with_reducible rfl))|(refine aC_condP (by simp (disch:=omega) only [go_sem,seval]<;>with_reducible rfl) ?_ ?_<;>(intro h;first|(exfalso;omega)|skip))|(apply aL_pK cxG (hf);(iterate 2 (·simp (disch:=omega) only [go_sem,seval]<;>with_reducible rfl));(·simp only [go_sem]<;>with_reducible rfl);(·simp))|fail)
   all_goals try (first|exact True.intro|exact not_false|omega|(simp (disch:=omega) only [go_sem,seval]<;>omega))
   all_goals clear hf
   all_goals (refine ⟨k+1,by omega,Sub.of_all (by simp [Fr.get,hX',ht]),by simp,by omega⟩)
  ·have hk2:k=l.length:=by omega
   subst hk2
   rw [List.take_length] at *
   repeat' (first|refine aC_seq ?_|refine aC_reg rfl ?_|refine aC_exit ?_|refine aC_ret ?_|refine thenQ_normal ?_|refine thenQ_exit ?_|refine blockQ_hit ?_|refine aL_nil ?_|(apply aL_step;(·exact True.intro);(iterate 2 (·simp (disch:=omega) only [go_sem,seval]<;>with_reducible rfl));(·simp only [go_sem]<;>with_reducible rfl))|(refine aC_condP (by simp (disch:=omega) only [go_sem,seval]<;>with_reducible rfl) ?_ ?_<;>(intro h;first|(exfalso;omega)|skip))|fail)
   all_goals try (first|exact True.intro|exact not_false|omega|(simp (disch:=omega) only [go_sem,seval]<;>omega))
   all_goals try (simp (disch:=omega) only [go_sem,seval])
   all_goals try simp
 all_goals exact True.intro
theorem bytes_equal (n1 n2:Bool) (a b:List UInt8):APure cx 112 [.sl 1 n1 (bl a) .any,.sl 1 n2 (bl b) .any] (.bool (decide (a=b))):=by
 refine pure_fnK cxOk Tryz.func112 (fun _=>false) (fun _=>none) (by kernel_rfl) (by dsimp only [Tryz.f112,go_sem,seval,liteO,Option.map,List.map];exact .mk _) ?_
 dsimp only [Tryz.f112,frame0,List.zipIdx,List.map,Nat.reduceAdd]
 try simp only [List.getElem?_toArray,List.getElem?_cons_succ,List.getElem?_cons_zero,Option.bind_some]
 repeat' (first|refine aC_seq ?_|refine aC_reg rfl ?_|refine aC_ret ?_|refine thenQ_normal ?_|refine aL_nil ?_|(apply aL_step;(·exact True.intro);(iterate 2 (·simp (disch:=omega) only [go_sem,seval]<;>with_reducible rfl));(·simp only [go_sem]<;>with_reducible rfl))|fail)
 all_goals try (first|exact True.intro|exact not_false|omega|(simp (disch:=omega) only [go_sem,seval]<;>omega))
 all_goals try (simp (disch:=omega) only [go_sem,seval])
 all_goals try simp
theorem wire_same (n1 n2:Bool) (a b:List UInt8):APure cx 94 [.sl 1 n1 (bl a) .any,.sl 1 n2 (bl b) .any] (.bool (decide (a=b))):=by
 have h:=bytes_equal n1 n2 a b
 refine pure_fnK cxOk Tryz.func94 (fun _=>false) (fun _=>none) (by kernel_rfl) (by dsimp only [Tryz.f94,go_sem,seval,liteO,Option.map,List.map];exact .mk _) ?_
 dsimp only [Tryz.f94,frame0,List.zipIdx,List.map,Nat.reduceAdd]
 try simp only [List.getElem?_toArray,List.getElem?_cons_succ,List.getElem?_cons_zero,Option.bind_some]
 repeat' (first|refine aC_seq ?_|refine aC_reg rfl ?_|refine aC_ret ?_|refine thenQ_normal ?_|refine aL_nil ?_|(apply aL_step;(·exact True.intro);(iterate 2 (·simp (disch:=omega) only [go_sem,seval]<;>with_reducible rfl));(·simp only [go_sem]<;>with_reducible rfl))|(apply aL_pK cxG (h);(iterate 2 (·simp (disch:=omega) only [go_sem,seval]<;>with_reducible rfl));(·simp only [go_sem]<;>with_reducible rfl);(·simp))|fail)
 all_goals try (first|exact True.intro|exact not_false|omega|(simp (disch:=omega) only [go_sem,seval]<;>omega))
 all_goals clear h
 all_goals try (simp (disch:=omega) only [go_sem,seval])
 all_goals try simp
theorem script_number (s:List UInt8) (hs:s.length≤1048576):APure cx 32 [.str s] (.int .u64 ((puP s).getD 0:Nat)):=by
 rcases a_parseU s hs with ⟨v,hv,h⟩|⟨hv,h⟩
 ·rw [hv]
  simp only [Option.getD_some]
  refine pure_fnK cxOk Tryz.func32 (fun _=>false) (fun _=>none) (by kernel_rfl) (by dsimp only [Tryz.f32,go_sem,seval,liteO,Option.map,List.map];exact .mk _) ?_
  dsimp only [Tryz.f32,frame0,List.zipIdx,List.map,Nat.reduceAdd]
  try simp only [List.getElem?_toArray,List.getElem?_cons_succ,List.getElem?_cons_zero,Option.bind_some]
  repeat' (first|refine aC_seq ?_|refine aC_reg rfl ?_|refine aC_skip ?_|refine aC_ret ?_|refine thenQ_normal ?_|refine aL_nil ?_|(apply aL_step;(·exact True.intro);(iterate 2 (·simp (disch:=omega) only [go_sem,seval]<;>with_reducible rfl));(·simp only [go_sem]<;>with_reducible rfl))|(refine aC_condF ?_ ?_;(·simp (disch:=omega) only [go_sem,seval]))|(apply aL_pK cxG (h);(iterate 2 (·simp (disch:=omega) only [go_sem,seval]<;>with_reducible rfl));(·simp only [go_sem]<;>with_reducible rfl);(·simp))|fail)
  all_goals try (first|exact True.intro|exact not_false|omega|(simp (disch:=omega) only [go_sem,seval]<;>omega))
  all_goals clear h
  all_goals try (simp (disch:=omega) only [go_sem,seval])
  all_goals try simp
 ·rw [hv]
  obtain ⟨n,t,h⟩:=h
  simp only [Option.getD_none]
  refine pure_fnK cxOk Tryz.func32 (fun _=>false) (fun _=>none) (by kernel_rfl) (by dsimp only [Tryz.f32,go_sem,seval,liteO,Option.map,List.map];exact .mk _) ?_
  dsimp only [Tryz.f32,frame0,List.zipIdx,List.map,Nat.reduceAdd]
  try simp only [List.getElem?_toArray,List.getElem?_cons_succ,List.getElem?_cons_zero,Option.bind_some]
  repeat' (first|refine aC_seq ?_|refine aC_reg rfl ?_|refine aC_ret ?_|refine thenQ_normal ?_|refine thenQ_ret ?_|refine aL_nil ?_|(apply aL_step;(·exact True.intro);(iterate 2 (·simp (disch:=omega) only [go_sem,seval]<;>with_reducible rfl));(·simp only [go_sem]<;>with_reducible rfl))|(refine aC_condT ?_ ?_;(·simp (disch:=omega) only [go_sem,seval]))|(apply aL_pK cxG (h);(iterate 2 (·simp (disch:=omega) only [go_sem,seval]<;>with_reducible rfl));(·simp only [go_sem]<;>with_reducible rfl);(·simp))|fail)
  all_goals try (first|exact True.intro|exact not_false|omega|(simp (disch:=omega) only [go_sem,seval]<;>omega))
  all_goals clear h
  all_goals try (simp (disch:=omega) only [go_sem,seval])
  all_goals try simp
structure Sp where
 k:Int
 op:Int
 xs:List Nat
 a:Nat
 w:Nat
 b:List UInt8
deriving DecidableEq
structure Sp.Ok (s:Sp):Prop where
 x6:s.xs.length=6
 xw:∀ x∈s.xs,x<18446744073709551616
 aw:s.a<18446744073709551616
 ww:s.w<18446744073709551616
 bl:s.b.length≤100000
def spC (s:Sp) (nl:Bool) (t:Tag):List AVal:=.int .i64 s.k :: .int .i64 s.op::(wl s.xs++[.int .u64 (s.a:Nat),.int .u64 (s.w:Nat),.sl 1 nl (bl s.b) t])
def Sp.zero:Sp:=⟨0,0,[0,0,0,0,0,0],0,0,[]⟩
theorem six {α:Type} {l:List α} (h:l.length=6):∃ a b c d e f,l=[a,b,c,d,e,f]:=by
 match l,h with
 |[a,b,c,d,e,f],_=>exact ⟨a,b,c,d,e,f,rfl⟩
theorem wl_six (a b c d e f:Nat):wl [a,b,c,d,e,f]=[.int .u64 (a:Nat),.int .u64 (b:Nat),.int .u64 (c:Nat),.int .u64 (d:Nat),.int .u64 (e:Nat),.int .u64 (f:Nat)]:=rfl
theorem spC_six (k op:Int) (x0 x1 x2 x3 x4 x5 a w:Nat) (b:List UInt8) (nl:Bool) (t:Tag) :
  spC ⟨k,op,[x0,x1,x2,x3,x4,x5],a,w,b⟩ nl t=[.int .i64 k,.int .i64 op,.int .u64 (x0:Nat),.int .u64 (x1:Nat),.int .u64 (x2:Nat),.int .u64 (x3:Nat),.int .u64 (x4:Nat),.int .u64 (x5:Nat),.int .u64 (a:Nat),.int .u64 (w:Nat),.sl 1 nl (bl b) t]:=rfl
theorem script_sameStep (s t:Sp) (hs:s.xs.length=6) (ht:t.xs.length=6) (n1 n2:Bool) :
  APure cx 52 [.agg (spC s n1 .any),.agg (spC t n2 .any)] (.bool (decide (s=t))):=by
 obtain ⟨k,op,xs,a,w,b⟩:=s
 obtain ⟨k',op',xs',a',w',b'⟩:=t
 obtain ⟨x0,x1,x2,x3,x4,x5,rfl⟩:=six hs
 obtain ⟨y0,y1,y2,y3,y4,y5,rfl⟩:=six ht
 rw [spC_six,spC_six]
 have hsm:=wire_same n1 n2 b b'
 refine pure_fnK cxOk Tryz.func52 (fun _=>false) (fun _=>none) (by kernel_rfl) (by dsimp only [Tryz.f52,go_sem,seval,liteO,Option.map,List.map];exact .mk _) ?_
 dsimp only [Tryz.f52,frame0,List.zipIdx,List.map,Nat.reduceAdd]
 try simp only [List.getElem?_toArray,List.getElem?_cons_succ,List.getElem?_cons_zero,Option.bind_some]
 repeat' (first|refine aC_seq ?_|refine aC_reg rfl ?_|refine aC_ret ?_|refine thenQ_normal ?_|refine aL_nil ?_|(apply aL_step;(·exact True.intro);(iterate 2 (·simp (disch:=omega) only [go_sem,seval]<;>with_reducible rfl));(·simp only [go_sem]<;>with_reducible rfl))|(refine aL_skip ?_ (by simp only [go_sem]<;>with_reducible rfl) ?_;(·simp (disch:=omega) only [go_sem,seval]))|(apply aL_guardP;(·simp (disch:=omega) only [go_sem,seval]<;>with_reducible rfl);all_goals (intro h;first|(exfalso;omega)|(simp only [h,decide_true,decide_false,not_true,not_false_iff])))|(apply aL_pK cxG (hsm);(iterate 2 (·simp (disch:=omega) only [go_sem,seval]<;>with_reducible rfl));(·simp only [go_sem]<;>with_reducible rfl);(·simp))|fail)
 all_goals try (first|exact True.intro|exact not_false|omega|(simp (disch:=omega) only [go_sem,seval]<;>omega))
 all_goals clear hsm
 all_goals try (simp (disch:=omega) only [go_sem,seval])
 all_goals try simp
 all_goals try (exact ⟨by kernel_rfl,by kernel_rfl⟩)
 all_goals clear hs ht
 all_goals simp_all [Int.ofNat_inj]
def MayS (s:Sp):Prop :=
 (s.k=1∧MayC s.op s.xs∧s.a=0∧s.w=0∧s.b=[]) ∨
 (((s.op=0∧s.xs=[0,0,0,0,0,0])∧((s.k=2∧s.w=0∧s.b=[])∨(s.k=3∧s.b=[])∨(s.k=4∧s.a=0∧s.w=0∧s.b.length≤4096))))
instance (s:Sp):Decidable (MayS s):=by unfold MayS;infer_instance
def bareS (s:Sp):Sp :=
 if s.k=1 then ⟨1,s.op,s.xs,0,0,[]⟩ else if s.k=2 then ⟨2,0,[0,0,0,0,0,0],s.a,0,[]⟩
 else if s.k=3 then ⟨3,0,[0,0,0,0,0,0],s.a,s.w,[]⟩ else if s.k=4 then ⟨4,0,[0,0,0,0,0,0],0,0,s.b⟩ else ⟨s.k,0,[0,0,0,0,0,0],0,0,[]⟩
theorem bare_len (s:Sp) (h:s.xs.length=6):(bareS s).xs.length=6:=by unfold bareS;(repeat' split)<;>first|exact h|rfl
theorem mayS_iff (s:Sp):MayS s↔(1≤s.k∧s.k≤4)∧s=bareS s∧s.b.length≤4096∧(s.k≠1∨MayC s.op s.xs):=by
 obtain ⟨k,op,xs,a,w,b⟩:=s
 simp only [MayS,bareS]
 constructor
 ·rintro (⟨rfl,h1,rfl,rfl,rfl⟩|⟨⟨rfl,rfl⟩,(⟨rfl,rfl,rfl⟩|⟨rfl,rfl⟩|⟨rfl,rfl,rfl,h⟩)⟩)<;>simp_all
 ·rintro ⟨⟨h1,h2⟩,h3,h4,h5⟩
  have hk:k=1∨k=2∨k=3∨k=4:=by omega
  rcases hk with rfl|rfl|rfl|rfl<;>simp_all
def bareN (k:Int) (nl:Bool):Bool:=if k=4 then nl else true
theorem script_bare (s:Sp) (hs:s.xs.length=6) (nl:Bool):APure cx 53 [.agg (spC s nl .any)] (.agg (spC (bareS s) (bareN s.k nl) .any)):=by
 obtain ⟨k,op,xs,a,w,b⟩:=s
 obtain ⟨x0,x1,x2,x3,x4,x5,rfl⟩:=six hs
 unfold bareS bareN
 simp only
 by_cases h1:k=1
 ·subst h1
  simp only [↓reduceIte,Int.reduceEq]
  rw [spC_six,spC_six]
  refine pure_fnK cxOk Tryz.func53 (fun _=>false) (fe53.q) (by kernel_rfl) (by dsimp only [Tryz.f53,go_sem,seval,liteO,Option.map,List.map];exact .mk _) ?_
  dsimp only [Tryz.f53,frame0,List.zipIdx,List.map,Nat.reduceAdd]
  try simp only [List.getElem?_toArray,List.getElem?_cons_succ,List.getElem?_cons_zero,Option.bind_some]
  repeat' (first|refine aC_seq ?_|refine aC_reg rfl ?_|refine aC_block ?_|refine aC_ret ?_|refine thenQ_normal ?_|refine blockQ_normal ?_|refine aL_nil ?_|(apply aL_step;(·exact True.intro);(iterate 2 (·simp (disch:=omega) only [go_sem,seval]<;>with_reducible rfl));(·simp only [go_sem]<;>with_reducible rfl))|(refine aC_condT ?_ ?_;(·simp (disch:=omega) only [go_sem,seval]))|fail)
  all_goals try (first|exact True.intro|exact not_false|omega|(simp (disch:=omega) only [go_sem,seval]<;>omega))
  all_goals try (simp (disch:=omega) only [go_sem,seval])
  all_goals try simp
  all_goals try rfl
 ·by_cases h2:k=2
  ·subst h2
   simp only [↓reduceIte,Int.reduceEq]
   rw [spC_six,spC_six]
   refine pure_fnK cxOk Tryz.func53 (fun _=>false) (fe53.q) (by kernel_rfl) (by dsimp only [Tryz.f53,go_sem,seval,liteO,Option.map,List.map];exact .mk _) ?_
   dsimp only [Tryz.f53,frame0,List.zipIdx,List.map,Nat.reduceAdd]
   try simp only [List.getElem?_toArray,List.getElem?_cons_succ,List.getElem?_cons_zero,Option.bind_some]
   repeat' (first|refine aC_seq ?_|refine aC_reg rfl ?_|refine aC_block ?_|refine aC_ret ?_|refine thenQ_normal ?_|refine blockQ_normal ?_|refine aL_nil ?_|(apply aL_step;(·exact True.intro);(iterate 2 (·simp (disch:=omega) only [go_sem,seval]<;>with_reducible rfl));(·simp only [go_sem]<;>with_reducible rfl))|(refine aC_condT ?_ ?_;(·simp (disch:=omega) only [go_sem,seval]))|(refine aC_condF ?_ ?_;(·simp (disch:=omega) only [go_sem,seval]))|fail)
   all_goals try (first|exact True.intro|exact not_false|omega|(simp (disch:=omega) only [go_sem,seval]<;>omega))
   all_goals try (simp (disch:=omega) only [go_sem,seval])
   all_goals try simp
   all_goals try rfl
  ·by_cases h3:k=3
   ·subst h3
    simp only [↓reduceIte,Int.reduceEq]
    rw [spC_six,spC_six]
    refine pure_fnK cxOk Tryz.func53 (fun _=>false) (fe53.q) (by kernel_rfl) (by dsimp only [Tryz.f53,go_sem,seval,liteO,Option.map,List.map];exact .mk _) ?_
    dsimp only [Tryz.f53,frame0,List.zipIdx,List.map,Nat.reduceAdd]
    try simp only [List.getElem?_toArray,List.getElem?_cons_succ,List.getElem?_cons_zero,Option.bind_some]
    repeat' (first|refine aC_seq ?_|refine aC_reg rfl ?_|refine aC_block ?_|refine thenQ_normal ?_|refine aL_nil ?_|(apply aL_step;(·exact True.intro);(iterate 2 (·simp (disch:=omega) only [go_sem,seval]<;>with_reducible rfl));(·simp only [go_sem]<;>with_reducible rfl))|(refine aC_condT ?_ ?_;(·simp (disch:=omega) only [go_sem,seval]))|(refine aC_condF ?_ ?_;(·simp (disch:=omega) only [go_sem,seval]))|fail)
    all_goals try (first|exact True.intro|exact not_false|omega|(simp (disch:=omega) only [go_sem,seval]<;>omega))
    refine aC_regB (U:=[(some 24,none)]) rfl [(some 22,0),(some 24,0)] ?_
    repeat' (first|refine aLB_nil ?_|(apply aLB_step;(·exact True.intro);(·exact (by intro h;cases h));(·rfl);(·simp (disch:=omega) only [go_sem,seval]);(·simp (disch:=omega) only [go_sem,seval]<;>with_reducible rfl);(·simp only [go_sem]<;>with_reducible rfl);(·(intro b hb;first|(cases hb;done)|(simp (disch:=omega) only [loadBox,go_sem,seval] at hb;(try injection hb with hb);subst hb;simp))))|(apply aLB_write;(·exact True.intro);(·rfl);(·rfl);(·simp (disch:=omega) only [go_sem,seval]);(·simp (disch:=omega) only [go_sem,seval]<;>with_reducible rfl);(·simp only [go_sem]<;>with_reducible rfl);(·simp))|fail)
    repeat' (first|refine aC_seq ?_|refine aC_reg rfl ?_|refine aC_ret ?_|refine thenQ_normal ?_|refine blockQ_normal ?_|refine aL_nil ?_|(apply aL_step;(·exact True.intro);(iterate 2 (·simp (disch:=omega) only [go_sem,seval]<;>with_reducible rfl));(·simp only [go_sem]<;>with_reducible rfl))|fail)
    all_goals try (first|exact True.intro|exact not_false|omega|(simp (disch:=omega) only [go_sem,seval]<;>omega))
    all_goals try (simp (disch:=omega) only [go_sem,seval])
    all_goals try simp
    all_goals try rfl
   ·by_cases h4:k=4
    ·subst h4
     simp only [↓reduceIte,Int.reduceEq]
     rw [spC_six,spC_six]
     refine pure_fnK cxOk Tryz.func53 (fun _=>false) (fe53.q) (by kernel_rfl) (by dsimp only [Tryz.f53,go_sem,seval,liteO,Option.map,List.map];exact .mk _) ?_
     dsimp only [Tryz.f53,frame0,List.zipIdx,List.map,Nat.reduceAdd]
     try simp only [List.getElem?_toArray,List.getElem?_cons_succ,List.getElem?_cons_zero,Option.bind_some]
     repeat' (first|refine aC_seq ?_|refine aC_reg rfl ?_|refine aC_block ?_|refine aC_ret ?_|refine thenQ_normal ?_|refine blockQ_normal ?_|refine aL_nil ?_|(apply aL_step;(·exact True.intro);(iterate 2 (·simp (disch:=omega) only [go_sem,seval]<;>with_reducible rfl));(·simp only [go_sem]<;>with_reducible rfl))|(refine aC_condT ?_ ?_;(·simp (disch:=omega) only [go_sem,seval]))|(refine aC_condF ?_ ?_;(·simp (disch:=omega) only [go_sem,seval]))|fail)
     all_goals try (first|exact True.intro|exact not_false|omega|(simp (disch:=omega) only [go_sem,seval]<;>omega))
     all_goals try (simp (disch:=omega) only [go_sem,seval])
     all_goals try simp
    ·rw [if_neg h1,if_neg h2,if_neg h3,if_neg h4,if_neg h4]
     rw [spC_six,spC_six]
     refine pure_fnK cxOk Tryz.func53 (fun _=>false) (fe53.q) (by kernel_rfl) (by dsimp only [Tryz.f53,go_sem,seval,liteO,Option.map,List.map];exact .mk _) ?_
     dsimp only [Tryz.f53,frame0,List.zipIdx,List.map,Nat.reduceAdd]
     try simp only [List.getElem?_toArray,List.getElem?_cons_succ,List.getElem?_cons_zero,Option.bind_some]
     repeat' (first|refine aC_seq ?_|refine aC_reg rfl ?_|refine aC_block ?_|refine aC_skip ?_|refine aC_ret ?_|refine thenQ_normal ?_|refine blockQ_normal ?_|refine aL_nil ?_|(apply aL_step;(·exact True.intro);(iterate 2 (·simp (disch:=omega) only [go_sem,seval]<;>with_reducible rfl));(·simp only [go_sem]<;>with_reducible rfl))|(refine aC_condP (by simp (disch:=omega) only [go_sem,seval]<;>with_reducible rfl) ?_ ?_<;>(intro h;first|(exfalso;omega)|skip))|fail)
     all_goals try (first|exact True.intro|exact not_false|omega|(simp (disch:=omega) only [go_sem,seval]<;>omega))
     all_goals try (simp (disch:=omega) only [go_sem,seval])
     all_goals try simp
     all_goals try rfl
end
end Go.Am
end
section
namespace Go.Am
open Go Go.Proofs
set_option maxHeartbeats 8000000
set_option maxRecDepth 100000
section
attribute [local irreducible] aC aL thenQ blockQ scopeQ ALoop AWp
theorem script_MayStep (s:Sp) (hs:s.xs.length=6) (nl:Bool):APure cx 18 [.agg (spC s nl .any)] (.bool (decide (MayS s))):=by
 have hb:=script_bare s hs nl
 have hsm:=script_sameStep s (bareS s) hs (bare_len s hs) nl (bareN s.k nl)
 have hm:=call_May s.op s.xs hs
 have hd:decide (MayS s)=(decide (1≤s.k)&&decide (s.k≤4)&&decide (s=bareS s)&&decide ((s.b.length:Int)≤4096)&&(decide (s.k≠1)||decide (MayC s.op s.xs))):=by
  have:((s.b.length:Int)≤4096)↔s.b.length≤4096:=by omega
  rw [Bool.eq_iff_iff]
  simp only [Bool.and_eq_true,Bool.or_eq_true,decide_eq_true_eq,mayS_iff,and_assoc,this]
 rw [hd]
 obtain ⟨k,op,xs,a,w,b⟩:=s
 obtain ⟨x0,x1,x2,x3,x4,x5,rfl⟩:=six hs
 have hbl:=bare_len ⟨k,op,[x0,x1,x2,x3,x4,x5],a,w,b⟩ rfl
 simp only at *
 generalize bareS ⟨k,op,[x0,x1,x2,x3,x4,x5],a,w,b⟩=bs at *
 generalize decide (_=bs)=eqb at *
 generalize bareN k nl=bn at *
 obtain ⟨k',op',xs',a',w',b'⟩:=bs
 obtain ⟨y0,y1,y2,y3,y4,y5,rfl⟩:=six hbl
 simp only [spC_six] at *
 rw [wl_six] at hm
 generalize decide (MayC op [x0,x1,x2,x3,x4,x5])=mc at *
 by_cases h1:1≤k
 case' neg =>
  refine pure_fnK cxOk Tryz.func18 (fun _=>false) (fe18.q) (by kernel_rfl) (by dsimp only [Tryz.f18,go_sem,seval,liteO,Option.map,List.map];exact .mk _) ?_
  dsimp only [Tryz.f18,frame0,List.zipIdx,List.map,Nat.reduceAdd]
  try simp only [List.getElem?_toArray,List.getElem?_cons_succ,List.getElem?_cons_zero,Option.bind_some]
  repeat' (first|(apply aL_boxI;(case hg=>(simp (disch:=omega) only [go_sem,seval,h1,decide_true,decide_false,eq_self_iff_true,not_true_eq_false,not_false_eq_true,Bool.not_true,Bool.not_false]));(case h=>(simp (disch:=omega) only [go_sem,seval,h1,decide_true,decide_false,eq_self_iff_true,not_true_eq_false,not_false_eq_true,Bool.not_true,Bool.not_false]<;>with_reducible rfl));(case hf=>(simp only [go_sem]<;>with_reducible rfl));(case hs=>(simp (disch:=omega) only [go_sem,seval,h1,decide_true,decide_false,eq_self_iff_true,not_true_eq_false,not_false_eq_true,Bool.not_true,Bool.not_false])))|refine aC_seq ?_|refine aC_reg rfl ?_|refine thenQ_normal ?_|refine aL_nil ?_|(apply aL_step;(·exact True.intro);(iterate 2 (·simp (disch:=omega) only [go_sem,seval,h1,decide_true,decide_false,eq_self_iff_true,not_true_eq_false,not_false_eq_true,Bool.not_true,Bool.not_false]<;>with_reducible rfl));(·simp only [go_sem]<;>with_reducible rfl))|(refine aL_skip ?_ (by simp only [go_sem]<;>with_reducible rfl) ?_;(·simp (disch:=omega) only [go_sem,seval,h1,decide_true,decide_false,eq_self_iff_true,not_true_eq_false,not_false_eq_true,Bool.not_true,Bool.not_false]))|fail)
  all_goals try (first|exact True.intro|exact not_false|omega|(simp (disch:=omega) only [go_sem,seval]<;>omega))
  refine aC_regB (U:=[(some 14,some 16)]) rfl [] ?_
  repeat' (first|refine aLB_nil ?_|(apply aLB_step;(·exact True.intro);(·exact (by intro h;cases h));(·rfl);(·simp (disch:=omega) only [go_sem,seval,h1,decide_true,decide_false,eq_self_iff_true,not_true_eq_false,not_false_eq_true,Bool.not_true,Bool.not_false]);(·simp (disch:=omega) only [go_sem,seval,h1,decide_true,decide_false,eq_self_iff_true,not_true_eq_false,not_false_eq_true,Bool.not_true,Bool.not_false]<;>with_reducible rfl);(·simp only [go_sem]<;>with_reducible rfl);(·(intro b hb;first|(cases hb;done)|(simp (disch:=omega) only [loadBox,go_sem,seval] at hb;(try injection hb with hb);subst hb;simp))))|(refine aLB_skip ?_ (by simp only [go_sem]<;>with_reducible rfl) ?_;(·simp (disch:=omega) only [go_sem,seval,h1,decide_true,decide_false,eq_self_iff_true,not_true_eq_false,not_false_eq_true,Bool.not_true,Bool.not_false]))|fail)
  repeat' (first|refine aC_ret ?_|refine thenQ_normal ?_|fail)
  all_goals try (first|exact True.intro|exact not_false|omega|(simp (disch:=omega) only [go_sem,seval]<;>omega))
  all_goals clear hb hsm hm hd
  all_goals try (simp (disch:=omega) only [go_sem,seval])
  all_goals try simp
  all_goals try simp_all
  all_goals try (intros;omega)
 case' pos =>
  by_cases h2:k≤4
  case' neg =>
   refine pure_fnK cxOk Tryz.func18 (fun _=>false) (fe18.q) (by kernel_rfl) (by dsimp only [Tryz.f18,go_sem,seval,liteO,Option.map,List.map];exact .mk _) ?_
   dsimp only [Tryz.f18,frame0,List.zipIdx,List.map,Nat.reduceAdd]
   try simp only [List.getElem?_toArray,List.getElem?_cons_succ,List.getElem?_cons_zero,Option.bind_some]
   repeat' (first|(apply aL_boxI;(case hg=>(simp (disch:=omega) only [go_sem,seval,h1,h2,decide_true,decide_false,eq_self_iff_true,not_true_eq_false,not_false_eq_true,Bool.not_true,Bool.not_false]));(case h=>(simp (disch:=omega) only [go_sem,seval,h1,h2,decide_true,decide_false,eq_self_iff_true,not_true_eq_false,not_false_eq_true,Bool.not_true,Bool.not_false]<;>with_reducible rfl));(case hf=>(simp only [go_sem]<;>with_reducible rfl));(case hs=>(simp (disch:=omega) only [go_sem,seval,h1,h2,decide_true,decide_false,eq_self_iff_true,not_true_eq_false,not_false_eq_true,Bool.not_true,Bool.not_false])))|refine aC_seq ?_|refine aC_reg rfl ?_|refine thenQ_normal ?_|refine aL_nil ?_|(apply aL_step;(·exact True.intro);(iterate 2 (·simp (disch:=omega) only [go_sem,seval,h1,h2,decide_true,decide_false,eq_self_iff_true,not_true_eq_false,not_false_eq_true,Bool.not_true,Bool.not_false]<;>with_reducible rfl));(·simp only [go_sem]<;>with_reducible rfl))|fail)
   all_goals try (first|exact True.intro|exact not_false|omega|(simp (disch:=omega) only [go_sem,seval]<;>omega))
   refine aC_regB (U:=[(some 14,some 16)]) rfl [] ?_
   repeat' (first|refine aLB_nil ?_|(apply aLB_step;(·exact True.intro);(·exact (by intro h;cases h));(·rfl);(·simp (disch:=omega) only [go_sem,seval,h1,h2,decide_true,decide_false,eq_self_iff_true,not_true_eq_false,not_false_eq_true,Bool.not_true,Bool.not_false]);(·simp (disch:=omega) only [go_sem,seval,h1,h2,decide_true,decide_false,eq_self_iff_true,not_true_eq_false,not_false_eq_true,Bool.not_true,Bool.not_false]<;>with_reducible rfl);(·simp only [go_sem]<;>with_reducible rfl);(·(intro b hb;first|(cases hb;done)|(simp (disch:=omega) only [loadBox,go_sem,seval] at hb;(try injection hb with hb);subst hb;simp))))|(refine aLB_skip ?_ (by simp only [go_sem]<;>with_reducible rfl) ?_;(·simp (disch:=omega) only [go_sem,seval,h1,h2,decide_true,decide_false,eq_self_iff_true,not_true_eq_false,not_false_eq_true,Bool.not_true,Bool.not_false]))|fail)
   repeat' (first|refine aC_ret ?_|refine thenQ_normal ?_|fail)
   all_goals try (first|exact True.intro|exact not_false|omega|(simp (disch:=omega) only [go_sem,seval]<;>omega))
   all_goals clear hb hsm hm hd
   all_goals try (simp (disch:=omega) only [go_sem,seval])
   all_goals try simp
   all_goals try simp_all
   all_goals try (intros;omega)
  case' pos =>
   cases eqb
   case' false =>
    refine pure_fnK cxOk Tryz.func18 (fun _=>false) (fe18.q) (by kernel_rfl) (by dsimp only [Tryz.f18,go_sem,seval,liteO,Option.map,List.map];exact .mk _) ?_
    dsimp only [Tryz.f18,frame0,List.zipIdx,List.map,Nat.reduceAdd]
    try simp only [List.getElem?_toArray,List.getElem?_cons_succ,List.getElem?_cons_zero,Option.bind_some]
    repeat' (first|(apply aL_boxI;(case hg=>(simp (disch:=omega) only [go_sem,seval,h1,h2,decide_true,decide_false,eq_self_iff_true,not_true_eq_false,not_false_eq_true,Bool.not_true,Bool.not_false]));(case h=>(simp (disch:=omega) only [go_sem,seval,h1,h2,decide_true,decide_false,eq_self_iff_true,not_true_eq_false,not_false_eq_true,Bool.not_true,Bool.not_false]<;>with_reducible rfl));(case hf=>(simp only [go_sem]<;>with_reducible rfl));(case hs=>(simp (disch:=omega) only [go_sem,seval,h1,h2,decide_true,decide_false,eq_self_iff_true,not_true_eq_false,not_false_eq_true,Bool.not_true,Bool.not_false])))|refine aC_seq ?_|refine aC_reg rfl ?_|refine thenQ_normal ?_|refine aL_nil ?_|(apply aL_step;(·exact True.intro);(iterate 2 (·simp (disch:=omega) only [go_sem,seval,h1,h2,decide_true,decide_false,eq_self_iff_true,not_true_eq_false,not_false_eq_true,Bool.not_true,Bool.not_false]<;>with_reducible rfl));(·simp only [go_sem]<;>with_reducible rfl))|fail)
    all_goals try (first|exact True.intro|exact not_false|omega|(simp (disch:=omega) only [go_sem,seval]<;>omega))
    refine aC_regB (U:=[(some 14,some 16)]) rfl [] ?_
    repeat' (first|refine aLB_nil ?_|(apply aLB_step;(·exact True.intro);(·exact (by intro h;cases h));(·rfl);(·simp (disch:=omega) only [go_sem,seval,h1,h2,decide_true,decide_false,eq_self_iff_true,not_true_eq_false,not_false_eq_true,Bool.not_true,Bool.not_false]);(·simp (disch:=omega) only [go_sem,seval,h1,h2,decide_true,decide_false,eq_self_iff_true,not_true_eq_false,not_false_eq_true,Bool.not_true,Bool.not_false]<;>with_reducible rfl);(·simp only [go_sem]<;>with_reducible rfl);(·(intro b hb;first|(cases hb;done)|(simp (disch:=omega) only [loadBox,go_sem,seval] at hb;(try injection hb with hb);subst hb;simp))))|(refine aLB_skip ?_ (by simp only [go_sem]<;>with_reducible rfl) ?_;(·simp (disch:=omega) only [go_sem,seval,h1,h2,decide_true,decide_false,eq_self_iff_true,not_true_eq_false,not_false_eq_true,Bool.not_true,Bool.not_false]))|(apply aLB_pure cxG (hb);(case hg=>(simp (disch:=omega) only [go_sem,seval,h1,h2,decide_true,decide_false,eq_self_iff_true,not_true_eq_false,not_false_eq_true,Bool.not_true,Bool.not_false]));(case hx=>(simp (disch:=omega) only [go_sem,seval,h1,h2,decide_true,decide_false,eq_self_iff_true,not_true_eq_false,not_false_eq_true,Bool.not_true,Bool.not_false]<;>with_reducible rfl));(case ha=>(simp (disch:=omega) only [go_sem,seval,h1,h2,decide_true,decide_false,eq_self_iff_true,not_true_eq_false,not_false_eq_true,Bool.not_true,Bool.not_false]<;>with_reducible rfl));(case he=>(simp only [go_sem]<;>with_reducible rfl));(case hcl=>(simp));(case hf=>(simp only [go_sem]<;>with_reducible rfl)))|(apply aLB_pure cxG (hsm);(case hg=>(simp (disch:=omega) only [go_sem,seval,h1,h2,decide_true,decide_false,eq_self_iff_true,not_true_eq_false,not_false_eq_true,Bool.not_true,Bool.not_false]));(case hx=>(simp (disch:=omega) only [go_sem,seval,h1,h2,decide_true,decide_false,eq_self_iff_true,not_true_eq_false,not_false_eq_true,Bool.not_true,Bool.not_false]<;>with_reducible rfl));(case ha=>(simp (disch:=omega) only [go_sem,seval,h1,h2,decide_true,decide_false,eq_self_iff_true,not_true_eq_false,not_false_eq_true,Bool.not_true,Bool.not_false]<;>with_reducible rfl));(case he=>(simp only [go_sem]<;>with_reducible rfl));(case hcl=>(simp));(case hf=>(simp only [go_sem]<;>with_reducible rfl)))|fail)
    repeat' (first|refine aC_ret ?_|refine thenQ_normal ?_|fail)
    all_goals try (first|exact True.intro|exact not_false|omega|(simp (disch:=omega) only [go_sem,seval]<;>omega))
    all_goals clear hb hsm hm hd
    all_goals try (simp (disch:=omega) only [go_sem,seval])
    all_goals try simp
    all_goals try simp_all
    all_goals try (intros;omega)
   case' true =>
    by_cases h4:(b.length:Int)≤4096
    case' neg =>
     refine pure_fnK cxOk Tryz.func18 (fun _=>false) (fe18.q) (by kernel_rfl) (by dsimp only [Tryz.f18,go_sem,seval,liteO,Option.map,List.map];exact .mk _) ?_
     dsimp only [Tryz.f18,frame0,List.zipIdx,List.map,Nat.reduceAdd]
     try simp only [List.getElem?_toArray,List.getElem?_cons_succ,List.getElem?_cons_zero,Option.bind_some]
     repeat' (first|(apply aL_boxI;(case hg=>(simp (disch:=omega) only [go_sem,seval,h1,h2,h4,decide_true,decide_false,eq_self_iff_true,not_true_eq_false,not_false_eq_true,Bool.not_true,Bool.not_false]));(case h=>(simp (disch:=omega) only [go_sem,seval,h1,h2,h4,decide_true,decide_false,eq_self_iff_true,not_true_eq_false,not_false_eq_true,Bool.not_true,Bool.not_false]<;>with_reducible rfl));(case hf=>(simp only [go_sem]<;>with_reducible rfl));(case hs=>(simp (disch:=omega) only [go_sem,seval,h1,h2,h4,decide_true,decide_false,eq_self_iff_true,not_true_eq_false,not_false_eq_true,Bool.not_true,Bool.not_false])))|refine aC_seq ?_|refine aC_reg rfl ?_|refine thenQ_normal ?_|refine aL_nil ?_|(apply aL_step;(·exact True.intro);(iterate 2 (·simp (disch:=omega) only [go_sem,seval,h1,h2,h4,decide_true,decide_false,eq_self_iff_true,not_true_eq_false,not_false_eq_true,Bool.not_true,Bool.not_false]<;>with_reducible rfl));(·simp only [go_sem]<;>with_reducible rfl))|fail)
     all_goals try (first|exact True.intro|exact not_false|omega|(simp (disch:=omega) only [go_sem,seval]<;>omega))
     refine aC_regB (U:=[(some 14,some 16)]) rfl [] ?_
     repeat' (first|refine aLB_nil ?_|(apply aLB_step;(·exact True.intro);(·exact (by intro h;cases h));(·rfl);(·simp (disch:=omega) only [go_sem,seval,h1,h2,h4,decide_true,decide_false,eq_self_iff_true,not_true_eq_false,not_false_eq_true,Bool.not_true,Bool.not_false]);(·simp (disch:=omega) only [go_sem,seval,h1,h2,h4,decide_true,decide_false,eq_self_iff_true,not_true_eq_false,not_false_eq_true,Bool.not_true,Bool.not_false]<;>with_reducible rfl);(·simp only [go_sem]<;>with_reducible rfl);(·(intro b hb;first|(cases hb;done)|(simp (disch:=omega) only [loadBox,go_sem,seval] at hb;(try injection hb with hb);subst hb;simp))))|(refine aLB_skip ?_ (by simp only [go_sem]<;>with_reducible rfl) ?_;(·simp (disch:=omega) only [go_sem,seval,h1,h2,h4,decide_true,decide_false,eq_self_iff_true,not_true_eq_false,not_false_eq_true,Bool.not_true,Bool.not_false]))|(apply aLB_pure cxG (hb);(case hg=>(simp (disch:=omega) only [go_sem,seval,h1,h2,h4,decide_true,decide_false,eq_self_iff_true,not_true_eq_false,not_false_eq_true,Bool.not_true,Bool.not_false]));(case hx=>(simp (disch:=omega) only [go_sem,seval,h1,h2,h4,decide_true,decide_false,eq_self_iff_true,not_true_eq_false,not_false_eq_true,Bool.not_true,Bool.not_false]<;>with_reducible rfl));(case ha=>(simp (disch:=omega) only [go_sem,seval,h1,h2,h4,decide_true,decide_false,eq_self_iff_true,not_true_eq_false,not_false_eq_true,Bool.not_true,Bool.not_false]<;>with_reducible rfl));(case he=>(simp only [go_sem]<;>with_reducible rfl));(case hcl=>(simp));(case hf=>(simp only [go_sem]<;>with_reducible rfl)))|(apply aLB_pure cxG (hsm);(case hg=>(simp (disch:=omega) only [go_sem,seval,h1,h2,h4,decide_true,decide_false,eq_self_iff_true,not_true_eq_false,not_false_eq_true,Bool.not_true,Bool.not_false]));(case hx=>(simp (disch:=omega) only [go_sem,seval,h1,h2,h4,decide_true,decide_false,eq_self_iff_true,not_true_eq_false,not_false_eq_true,Bool.not_true,Bool.not_false]<;>with_reducible rfl));(case ha=>(simp (disch:=omega) only [go_sem,seval,h1,h2,h4,decide_true,decide_false,eq_self_iff_true,not_true_eq_false,not_false_eq_true,Bool.not_true,Bool.not_false]<;>with_reducible rfl));(case he=>(simp only [go_sem]<;>with_reducible rfl));(case hcl=>(simp));(case hf=>(simp only [go_sem]<;>with_reducible rfl)))|fail)
     repeat' (first|refine aC_ret ?_|refine thenQ_normal ?_|fail)
     all_goals try (first|exact True.intro|exact not_false|omega|(simp (disch:=omega) only [go_sem,seval]<;>omega))
     all_goals clear hb hsm hm hd
     all_goals try (simp (disch:=omega) only [go_sem,seval])
     all_goals try simp
     all_goals try simp_all
     all_goals try (intros;omega)
    case' pos =>
     by_cases h5:k=1
     case' pos =>
      subst h5
      refine pure_fnK cxOk Tryz.func18 (fun _=>false) (fe18.q) (by kernel_rfl) (by dsimp only [Tryz.f18,go_sem,seval,liteO,Option.map,List.map];exact .mk _) ?_
      dsimp only [Tryz.f18,frame0,List.zipIdx,List.map,Nat.reduceAdd]
      try simp only [List.getElem?_toArray,List.getElem?_cons_succ,List.getElem?_cons_zero,Option.bind_some]
      repeat' (first|(apply aL_boxI;(case hg=>(simp (disch:=omega) only [go_sem,seval,h4,decide_true,decide_false,eq_self_iff_true,not_true_eq_false,not_false_eq_true,Bool.not_true,Bool.not_false]));(case h=>(simp (disch:=omega) only [go_sem,seval,h4,decide_true,decide_false,eq_self_iff_true,not_true_eq_false,not_false_eq_true,Bool.not_true,Bool.not_false]<;>with_reducible rfl));(case hf=>(simp only [go_sem]<;>with_reducible rfl));(case hs=>(simp (disch:=omega) only [go_sem,seval,h4,decide_true,decide_false,eq_self_iff_true,not_true_eq_false,not_false_eq_true,Bool.not_true,Bool.not_false])))|refine aC_seq ?_|refine aC_reg rfl ?_|refine thenQ_normal ?_|refine aL_nil ?_|(apply aL_step;(·exact True.intro);(iterate 2 (·simp (disch:=omega) only [go_sem,seval,h4,decide_true,decide_false,eq_self_iff_true,not_true_eq_false,not_false_eq_true,Bool.not_true,Bool.not_false]<;>with_reducible rfl));(·simp only [go_sem]<;>with_reducible rfl))|fail)
      all_goals try (first|exact True.intro|exact not_false|omega|(simp (disch:=omega) only [go_sem,seval]<;>omega))
      refine aC_regB (U:=[(some 14,some 16)]) rfl [] ?_
      repeat' (first|refine aLB_nil ?_|(apply aLB_step;(·exact True.intro);(·exact (by intro h;cases h));(·rfl);(·simp (disch:=omega) only [go_sem,seval,h4,decide_true,decide_false,eq_self_iff_true,not_true_eq_false,not_false_eq_true,Bool.not_true,Bool.not_false]);(·simp (disch:=omega) only [go_sem,seval,h4,decide_true,decide_false,eq_self_iff_true,not_true_eq_false,not_false_eq_true,Bool.not_true,Bool.not_false]<;>with_reducible rfl);(·simp only [go_sem]<;>with_reducible rfl);(·(intro b hb;first|(cases hb;done)|(simp (disch:=omega) only [loadBox,go_sem,seval] at hb;(try injection hb with hb);subst hb;simp))))|(apply aLB_pure cxG (hb);(case hg=>(simp (disch:=omega) only [go_sem,seval,h4,decide_true,decide_false,eq_self_iff_true,not_true_eq_false,not_false_eq_true,Bool.not_true,Bool.not_false]));(case hx=>(simp (disch:=omega) only [go_sem,seval,h4,decide_true,decide_false,eq_self_iff_true,not_true_eq_false,not_false_eq_true,Bool.not_true,Bool.not_false]<;>with_reducible rfl));(case ha=>(simp (disch:=omega) only [go_sem,seval,h4,decide_true,decide_false,eq_self_iff_true,not_true_eq_false,not_false_eq_true,Bool.not_true,Bool.not_false]<;>with_reducible rfl));(case he=>(simp only [go_sem]<;>with_reducible rfl));(case hcl=>(simp));(case hf=>(simp only [go_sem]<;>with_reducible rfl)))|(apply aLB_pure cxG (hsm);(case hg=>(simp (disch:=omega) only [go_sem,seval,h4,decide_true,decide_false,eq_self_iff_true,not_true_eq_false,not_false_eq_true,Bool.not_true,Bool.not_false]));(case hx=>(simp (disch:=omega) only [go_sem,seval,h4,decide_true,decide_false,eq_self_iff_true,not_true_eq_false,not_false_eq_true,Bool.not_true,Bool.not_false]<;>with_reducible rfl));(case ha=>(simp (disch:=omega) only [go_sem,seval,h4,decide_true,decide_false,eq_self_iff_true,not_true_eq_false,not_false_eq_true,Bool.not_true,Bool.not_false]<;>with_reducible rfl));(case he=>(simp only [go_sem]<;>with_reducible rfl));(case hcl=>(simp));(case hf=>(simp only [go_sem]<;>with_reducible rfl)))|(apply aLB_pure cxG (hm);(case hg=>(simp (disch:=omega) only [go_sem,seval,h4,decide_true,decide_false,eq_self_iff_true,not_true_eq_false,not_false_eq_true,Bool.not_true,Bool.not_false]));(case hx=>(simp (disch:=omega) only [go_sem,seval,h4,decide_true,decide_false,eq_self_iff_true,not_true_eq_false,not_false_eq_true,Bool.not_true,Bool.not_false]<;>with_reducible rfl));(case ha=>(simp (disch:=omega) only [go_sem,seval,h4,decide_true,decide_false,eq_self_iff_true,not_true_eq_false,not_false_eq_true,Bool.not_true,Bool.not_false]<;>with_reducible rfl));(case he=>(simp only [go_sem]<;>with_reducible rfl));(case hcl=>(simp));(case hf=>(simp only [go_sem]<;>with_reducible rfl)))|fail)
      repeat' (first|refine aC_ret ?_|refine thenQ_normal ?_|fail)
      all_goals try (first|exact True.intro|exact not_false|omega|(simp (disch:=omega) only [go_sem,seval]<;>omega))
      all_goals clear hb hsm hm hd
      all_goals try (simp (disch:=omega) only [go_sem,seval])
      all_goals try simp
      all_goals try simp_all
      all_goals try (intros;omega)
     case' neg =>
      refine pure_fnK cxOk Tryz.func18 (fun _=>false) (fe18.q) (by kernel_rfl) (by dsimp only [Tryz.f18,go_sem,seval,liteO,Option.map,List.map];exact .mk _) ?_
      dsimp only [Tryz.f18,frame0,List.zipIdx,List.map,Nat.reduceAdd]
      try simp only [List.getElem?_toArray,List.getElem?_cons_succ,List.getElem?_cons_zero,Option.bind_some]
      repeat' (first|(apply aL_boxI;(case hg=>(simp (disch:=omega) only [go_sem,seval,h1,h2,h4,h5,decide_true,decide_false,eq_self_iff_true,not_true_eq_false,not_false_eq_true,Bool.not_true,Bool.not_false]));(case h=>(simp (disch:=omega) only [go_sem,seval,h1,h2,h4,h5,decide_true,decide_false,eq_self_iff_true,not_true_eq_false,not_false_eq_true,Bool.not_true,Bool.not_false]<;>with_reducible rfl));(case hf=>(simp only [go_sem]<;>with_reducible rfl));(case hs=>(simp (disch:=omega) only [go_sem,seval,h1,h2,h4,h5,decide_true,decide_false,eq_self_iff_true,not_true_eq_false,not_false_eq_true,Bool.not_true,Bool.not_false])))|refine aC_seq ?_|refine aC_reg rfl ?_|refine thenQ_normal ?_|refine aL_nil ?_|(apply aL_step;(·exact True.intro);(iterate 2 (·simp (disch:=omega) only [go_sem,seval,h1,h2,h4,h5,decide_true,decide_false,eq_self_iff_true,not_true_eq_false,not_false_eq_true,Bool.not_true,Bool.not_false]<;>with_reducible rfl));(·simp only [go_sem]<;>with_reducible rfl))|fail)
      all_goals try (first|exact True.intro|exact not_false|omega|(simp (disch:=omega) only [go_sem,seval]<;>omega))
      refine aC_regB (U:=[(some 14,some 16)]) rfl [] ?_
      repeat' (first|refine aLB_nil ?_|(apply aLB_step;(·exact True.intro);(·exact (by intro h;cases h));(·rfl);(·simp (disch:=omega) only [go_sem,seval,h1,h2,h4,h5,decide_true,decide_false,eq_self_iff_true,not_true_eq_false,not_false_eq_true,Bool.not_true,Bool.not_false]);(·simp (disch:=omega) only [go_sem,seval,h1,h2,h4,h5,decide_true,decide_false,eq_self_iff_true,not_true_eq_false,not_false_eq_true,Bool.not_true,Bool.not_false]<;>with_reducible rfl);(·simp only [go_sem]<;>with_reducible rfl);(·(intro b hb;first|(cases hb;done)|(simp (disch:=omega) only [loadBox,go_sem,seval] at hb;(try injection hb with hb);subst hb;simp))))|(refine aLB_skip ?_ (by simp only [go_sem]<;>with_reducible rfl) ?_;(·simp (disch:=omega) only [go_sem,seval,h1,h2,h4,h5,decide_true,decide_false,eq_self_iff_true,not_true_eq_false,not_false_eq_true,Bool.not_true,Bool.not_false]))|(apply aLB_pure cxG (hb);(case hg=>(simp (disch:=omega) only [go_sem,seval,h1,h2,h4,h5,decide_true,decide_false,eq_self_iff_true,not_true_eq_false,not_false_eq_true,Bool.not_true,Bool.not_false]));(case hx=>(simp (disch:=omega) only [go_sem,seval,h1,h2,h4,h5,decide_true,decide_false,eq_self_iff_true,not_true_eq_false,not_false_eq_true,Bool.not_true,Bool.not_false]<;>with_reducible rfl));(case ha=>(simp (disch:=omega) only [go_sem,seval,h1,h2,h4,h5,decide_true,decide_false,eq_self_iff_true,not_true_eq_false,not_false_eq_true,Bool.not_true,Bool.not_false]<;>with_reducible rfl));(case he=>(simp only [go_sem]<;>with_reducible rfl));(case hcl=>(simp));(case hf=>(simp only [go_sem]<;>with_reducible rfl)))|(apply aLB_pure cxG (hsm);(case hg=>(simp (disch:=omega) only [go_sem,seval,h1,h2,h4,h5,decide_true,decide_false,eq_self_iff_true,not_true_eq_false,not_false_eq_true,Bool.not_true,Bool.not_false]));(case hx=>(simp (disch:=omega) only [go_sem,seval,h1,h2,h4,h5,decide_true,decide_false,eq_self_iff_true,not_true_eq_false,not_false_eq_true,Bool.not_true,Bool.not_false]<;>with_reducible rfl));(case ha=>(simp (disch:=omega) only [go_sem,seval,h1,h2,h4,h5,decide_true,decide_false,eq_self_iff_true,not_true_eq_false,not_false_eq_true,Bool.not_true,Bool.not_false]<;>with_reducible rfl));(case he=>(simp only [go_sem]<;>with_reducible rfl));(case hcl=>(simp));(case hf=>(simp only [go_sem]<;>with_reducible rfl)))|fail)
      repeat' (first|refine aC_ret ?_|refine thenQ_normal ?_|fail)
      all_goals try (first|exact True.intro|exact not_false|omega|(simp (disch:=omega) only [go_sem,seval]<;>omega))
      all_goals clear hb hsm hm hd
      all_goals try (simp (disch:=omega) only [go_sem,seval])
      all_goals try simp
      all_goals try simp_all
      all_goals try (intros;omega)
end
end Go.Am
end
section
namespace Go.Am
open Go Go.Proofs
set_option maxHeartbeats 8000000
set_option maxRecDepth 100000
section
attribute [local irreducible] aC aL thenQ blockQ scopeQ ALoop AWp
end
end Go.Am
end
section
namespace Go.Am
open Go Go.Proofs
set_option maxHeartbeats 8000000
set_option maxRecDepth 100000
section
attribute [local irreducible] aC aL thenQ blockQ scopeQ ALoop AWp
def VERIFY:List UInt8:=[118,101,114,105,102,121]
def lineS (s:Sp):List UInt8 :=
 if s.k=1 then ctx s.op s.xs else if s.k=2 then numT [108,111,97,100] [s.a] else if s.k=3 then numT [115,116,111,114,101] [s.a,s.w]
 else if s.b=[] then VERIFY else VERIFY++32::hexl s.b
theorem a_trim (s:List UInt8) (hs:s.length≤9223372036854775807):APure cx 74 [.str s,.str [32]] (.str (Lib.trimSuffix s [32])) :=
 apure_shelf (vs:=[.string ⟨s.toArray⟩,.string ⟨[32].toArray⟩]) (callable_of Tryz.func74 (by kernel_rfl) (by kernel_rfl)) rfl fun w im0 hG=>by
  have hz:(⟨s.toArray⟩ : ByteArray).size=s.length:=rfl
  refine (Tryz.strings_TrimSuffix ⟨s.toArray⟩ ⟨[32].toArray⟩ w (by omega)).mono fun e w' h=>?_
  obtain ⟨rfl,rfl⟩:=h
  exact ⟨_,rfl,grown_same _,.str _ _ rfl⟩
theorem hexd_ne (k:Nat) (h:k<16):hexd k≠32:=by
 have:((List.range 16).all fun k=>hexd k != 32)=true:=by decide
 simpa using List.all_eq_true.1 this k (List.mem_range.2 h)
theorem hexl_ne:∀ (l:List UInt8),∀ x∈hexl l,x≠32
 |[],x,h=>by cases h
 |b::l,x,h=>by
  have hb:=b.toNat_lt
  simp only [hexl,List.mem_cons] at h
  rcases h with rfl|rfl|h
  ·exact hexd_ne _ (by omega)
  ·exact hexd_ne _ (by omega)
  ·exact hexl_ne l x h
theorem trim_verify (b:List UInt8):Lib.trimSuffix (VERIFY++32::hexl b) [32]=if b=[] then VERIFY else VERIFY++32::hexl b:=by
 by_cases hb:b=[]
 ·subst hb;rfl
 ·rw [if_neg hb]
  unfold Lib.trimSuffix
  rw [if_neg]
  intro h
  have h2:[32] <:+ VERIFY++32::hexl b:=by simpa [Lib.hasSuffix,List.isSuffixOf_iff_suffix] using h
  have hl:=hexl_length b
  have hp:0<b.length:=List.length_pos_iff.2 hb
  obtain ⟨l,x,hlx⟩ : ∃ l x,hexl b=l++[x]:=by
   rcases List.eq_nil_or_concat (hexl b) with h|⟨l,x,h⟩
   ·rw [h] at hl;simp at hl;omega
   ·exact ⟨l,x,by simpa using h⟩
  have hx:=hexl_ne b x (by rw [hlx];simp)
  obtain ⟨u,hu⟩:=h2
  rw [hlx] at hu
  have h3:u++[32]=(VERIFY++32::l)++[x]:=by simpa using hu
  have:=(List.append_inj' h3 rfl).2
  injection this with this
  exact hx this.symm
theorem script_line (s:Sp) (hs:s.Ok) (hm:s.k=1→MayC s.op s.xs) (nl:Bool):APure cx 34 [.agg (spC s nl .any)] (.str (lineS s)):=by
 obtain ⟨hx6,hxw,haw,hww,hbl⟩:=hs
 have hct:=call_Text s.op s.xs hx6 hxw
 have hn1:=script_numbers [108,111,97,100] false [s.a] (by simp) (by simp) (by simpa using haw)
 have hn2:=script_numbers [115,116,111,114,101] false [s.a,s.w] (by simp) (by simp) (by simpa using ⟨haw,hww⟩)
 have hh:=wire_hex nl s.b (by omega)
 have hhl:=hexl_length s.b
 have htr:=a_trim (VERIFY++32::hexl s.b) (by simp [VERIFY];omega)
 rw [trim_verify] at htr
 obtain ⟨k,op,xs,a,w,b⟩:=s
 obtain ⟨x0,x1,x2,x3,x4,x5,rfl⟩:=six hx6
 unfold lineS
 simp only [spC_six,wl_six] at *
 simp only [wl,List.map_cons,List.map_nil] at hn1 hn2
 by_cases h1:k=1
 case' pos =>
  subst h1
  rw [if_pos (hm rfl)] at hct
  simp only [↓reduceIte]
  clear hm
  generalize ctx op [x0,x1,x2,x3,x4,x5]=X at *
 case' neg =>
  rw [if_neg h1]
  by_cases h2:k=2
  case' pos =>
   subst h2
   simp only [↓reduceIte]
   generalize numT [108,111,97,100] [a]=X at *
  case' neg =>
   rw [if_neg h2]
   by_cases h3:k=3
   case' pos =>
    subst h3
    simp only [↓reduceIte]
    generalize numT [115,116,111,114,101] [a,w]=X at *
   case' neg =>
    rw [if_neg h3]
    generalize (if b=[] then VERIFY else VERIFY++32::hexl b)=X at *
    generalize hexl b=Y at *
    unfold VERIFY at *
    simp only [List.cons_append,List.nil_append] at htr
 all_goals
 refine pure_fnK cxOk Tryz.func34 (fun _=>false) (fe34.q) (by kernel_rfl) (by dsimp only [Tryz.f34,go_sem,seval,liteO,Option.map,List.map];exact .mk _) ?_
 dsimp only [Tryz.f34,frame0,List.zipIdx,List.map,Nat.reduceAdd]
 try simp only [List.getElem?_toArray,List.getElem?_cons_succ,List.getElem?_cons_zero,Option.bind_some]
 repeat' (first|(apply aL_boxI;(case hg=>(simp (disch:=omega) only [go_sem,seval,eq_self_iff_true,decide_true,List.cons_append,List.nil_append]));(case h=>(simp (disch:=omega) only [go_sem,seval,eq_self_iff_true,decide_true,List.cons_append,List.nil_append]<;>with_reducible rfl));(case hf=>(simp only [go_sem]<;>with_reducible rfl));(case hs=>(simp (disch:=omega) only [go_sem,seval,eq_self_iff_true,decide_true,List.cons_append,List.nil_append])))|refine aC_seq ?_|refine aC_reg rfl ?_|refine aC_block ?_|refine aC_skip ?_|refine aC_ret ?_|refine thenQ_normal ?_|refine blockQ_normal ?_|refine thenQ_ret ?_|refine blockQ_ret ?_|refine aL_nil ?_|(apply aL_step;(·exact True.intro);(iterate 2 (·simp (disch:=omega) only [go_sem,seval,eq_self_iff_true,decide_true,List.cons_append,List.nil_append]<;>with_reducible rfl));(·simp only [go_sem]<;>with_reducible rfl))|(refine aC_condT ?_ ?_;(·simp (disch:=omega) only [go_sem,seval,eq_self_iff_true,decide_true,List.cons_append,List.nil_append]))|(refine aC_condF ?_ ?_;(·simp (disch:=omega) only [go_sem,seval,eq_self_iff_true,decide_true,List.cons_append,List.nil_append]))|(refine aC_condP (by simp (disch:=omega) only [go_sem,seval,eq_self_iff_true,decide_true,List.cons_append,List.nil_append]<;>with_reducible rfl) ?_ ?_<;>(intro h;first|(exfalso;omega)|skip))|(apply aL_pK cxG (hct);(iterate 2 (·simp (disch:=omega) only [go_sem,seval,eq_self_iff_true,decide_true,List.cons_append,List.nil_append]<;>with_reducible rfl));(·simp only [go_sem]<;>with_reducible rfl);(·simp))|(apply aL_pK cxG (hn1);(iterate 2 (·simp (disch:=omega) only [go_sem,seval,eq_self_iff_true,decide_true,List.cons_append,List.nil_append]<;>with_reducible rfl));(·simp only [go_sem]<;>with_reducible rfl);(·simp))|(apply aL_pK cxG (hn2);(iterate 2 (·simp (disch:=omega) only [go_sem,seval,eq_self_iff_true,decide_true,List.cons_append,List.nil_append]<;>with_reducible rfl));(·simp only [go_sem]<;>with_reducible rfl);(·simp))|(apply aL_pK cxG (hh);(iterate 2 (·simp (disch:=omega) only [go_sem,seval,eq_self_iff_true,decide_true,List.cons_append,List.nil_append]<;>with_reducible rfl));(·simp only [go_sem]<;>with_reducible rfl);(·simp))|(apply aL_pK cxG (htr);(iterate 2 (·simp (disch:=omega) only [go_sem,seval,eq_self_iff_true,decide_true,List.cons_append,List.nil_append]<;>with_reducible rfl));(·simp only [go_sem]<;>with_reducible rfl);(·simp))|fail)
 all_goals try (first|exact True.intro|exact not_false|omega|(simp (disch:=omega) only [go_sem,seval]<;>omega))
 all_goals clear hct hn1 hn2 hh htr
 all_goals try (simp (disch:=omega) only [go_sem,seval])
 all_goals try simp
end
end Go.Am
end
