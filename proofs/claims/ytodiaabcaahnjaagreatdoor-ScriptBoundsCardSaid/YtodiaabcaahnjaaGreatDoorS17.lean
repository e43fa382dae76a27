/- Setups and scripts: their cells; which setups may be; how much a script has; lines of 32 bytes and modes. -/
import Derived.Test.YtodiaabcaahnjaaGreatDoorS05
import Derived.Test.YtodiaabcaahnjaaGreatDoorS08
set_option linter.unusedVariables false
set_option linter.unusedSimpArgs false
section
namespace Go.Am
open Go Go.Proofs
set_option maxHeartbeats 8000000
set_option maxRecDepth 100000
section
attribute [local irreducible] aC aL thenQ blockQ scopeQ ALoop AWp
theorem blx_inj:∀ {a b:List UInt8},bl a=bl b→a=b
 |[],[],_=>rfl
 |[],_::_,h=>by cases h
 |_::_,[],h=>by cases h
 |x::a,y::b,h=>by
  simp only [bl,List.map_cons,List.cons.injEq] at h
  have h1:x=y:=by
   have:=h.1
   unfold bv at this
   injection this with _ h2
   exact UInt8.toNat_inj.1 (by omega)
  rw [h1,blx_inj h.2]
theorem blx_eq (a b:List UInt8):(bl a=bl b)=(a=b):=propext ⟨blx_inj,fun h=>h▸rfl⟩
theorem skbs_blx:∀ {a b:List UInt8},a.length=b.length→skbs (bl a) (bl b)=true
 |[],[],_=>rfl
 |[],_::_,h=>by simp at h
 |_::_,[],h=>by simp at h
 |x::a,y::b,h=>by
  have:=skbs_blx (a:=a) (b:=b) (by simpa using h)
  simp only [bl,List.map_cons,skbs] at this ⊢
  rw [this];rfl
theorem skb_dg {a:List UInt8} (h:a.length=32):skbs (bl a) (bl (List.replicate 32 0))=true:=skbs_blx (a:=a) (b:=List.replicate 32 0) (by simpa using h)
theorem drop_app1 {α:Type} {a b:List α} {x:α} {n:Nat} (h:a.length+1=n):(a++x::b).drop n=b:=by subst h;rw [← List.drop_drop];simp
theorem drop_app2 {α:Type} {a b:List α} {x y:α} {n:Nat} (h:a.length+2=n):(a++x::y::b).drop n=b:=by subst h;rw [← List.drop_drop];simp
theorem take_app1 {α:Type} {a b:List α} {x:α} {n:Nat} (h:a.length+1=n):(a++x::b).take n=a++[x]:=by subst h;simp [List.take_append,List.take_of_length_le]
theorem take_app2 {α:Type} {a b:List α} {x y:α} {n:Nat} (h:a.length+2=n):(a++x::y::b).take n=a++[x,y]:=by subst h;simp [List.take_append,List.take_of_length_le]
theorem putCells_all {bs cs:List AVal} (h:bs.length=cs.length):putCells bs 0 cs=cs:=by
 rw [putCells_eq cs bs 0 (by omega),Nat.zero_add,← h]
 simp
theorem getD_wlx (l:List Nat) (k:Nat) (z:AVal) (h:k<l.length):(wl l).getD k z = .int .u64 ((l[k]:Nat):Int):=by simp [wl,List.getD,h]
theorem belS_app (n:Nat) (a b:St):belS n (a++b)=(belS n a&&belS n b):=by
 rw [Bool.eq_iff_iff,Bool.and_eq_true,belS_iff,belS_iff,belS_iff]
 simp only [List.mem_append,or_imp,forall_and]
attribute [go_sem] skb_dg putCells_all drop_app1 drop_app2 take_app1 take_app2 blx_eq
structure Su where
 g:Int
 i:Bool
 m:List UInt8
 d:List (List UInt8)
 e:List Nat
deriving DecidableEq
structure Su.Ok (s:Su):Prop where
 m32:s.m.length=32
 d32:∀ x∈s.d,x.length=32
 ew:∀ x∈s.e,x<18446744073709551616
def dgs (d:List (List UInt8)):List AVal:=d.map fun x=>.agg (bl x)
def suC (s:Su) (nd ne:Bool):List AVal:=.int .i64 s.g :: .bool s.i::(bl s.m++[.sl 32 nd (dgs s.d) .any,.sl 1 ne (wl s.e) .any])
def sts (l:List (Sp × Bool)):List AVal:=l.map fun p=>.agg (spC p.1 p.2 .any)
def scC (s:Su) (nd ne:Bool) (l:List (Sp × Bool)) (ns:Bool):List AVal:=.int .i64 s.g :: .bool s.i::(bl s.m++[.sl 32 nd (dgs s.d) .any,.sl 1 ne (wl s.e) .any,.sl 11 ns (sts l) .any])
def MaySu (s:Su):Prop:=(1≤s.g∧s.g≤4096)∧s.d.length≤4096∧s.e.length≤4096
instance (s:Su):Decidable (MaySu s):=by unfold MaySu;infer_instance
theorem length_dgs (d:List (List UInt8)):(dgs d).length=d.length:=by simp [dgs]
theorem length_sts (l:List (Sp × Bool)):(sts l).length=l.length:=by simp [sts]
theorem getD_dgs (d:List (List UInt8)) (k:Nat) (z:AVal) (h:k<d.length):(dgs d).getD k z = .agg (bl d[k]):=by simp [dgs,List.getD,h]
theorem getD_sts (l:List (Sp × Bool)) (k:Nat) (z:AVal) (h:k<l.length):(sts l).getD k z = .agg (spC l[k].1 l[k].2 .any):=by simp [sts,List.getD,h]
theorem closed_dgs (d:List (List UInt8)):(∀ x∈dgs d,Closed x)↔True:=⟨fun _=>trivial,fun _ x hx=>by obtain ⟨b,_,rfl⟩:=List.mem_map.1 hx;simp⟩
theorem closed_spC (s:Sp) (nl:Bool):(∀ x∈spC s nl .any,Closed x)↔True:=⟨fun _=>trivial,fun _=>by simp [spC,or_imp,forall_and]⟩
theorem closed_sts (l:List (Sp × Bool)):(∀ x∈sts l,Closed x)↔True:=⟨fun _=>trivial,fun _ x hx=>by obtain ⟨p,_,rfl⟩:=List.mem_map.1 hx;simp only [closed_agg];exact (closed_spC _ _).2 trivial⟩
theorem one_spC (s:Sp) (nl:Bool) (t:Tag):(∀ x∈spC s nl t,x.one=true)↔True:=⟨fun _=>trivial,fun _ x hx=>by
 simp only [spC,List.mem_cons,List.mem_append,List.not_mem_nil,or_false] at hx
 rcases hx with rfl|rfl|hx|rfl|rfl|rfl
 ·rfl
 ·rfl
 ·exact (one_wl _).2 trivial x hx
 ·rfl
 ·rfl
 ·rfl⟩
theorem one_app (l:List UInt8) (r:List AVal):(∀ x∈bl l++r,x.one=true)↔∀ x∈r,x.one=true:=⟨fun h x hx=>h x (List.mem_append_right _ hx),fun h x hx=>by
 rcases List.mem_append.1 hx with k|k
 ·exact (okc_bl l).2 trivial x k
 ·exact h x k⟩
attribute [go_sem] one_app
theorem one_bl (l:List UInt8):(∀ x∈bl l,x.one=true)↔True:=okc_bl l
theorem closed_or (l:List UInt8) (P:AVal→Prop):(∀ x,x∈bl l∨P x→Closed x)↔∀ x,P x→Closed x:=⟨fun h x hx=>h x (.inr hx),fun h x hx=>by
 rcases hx with k|k
 ·exact (closed_bl l).2 trivial x k
 ·exact h x k⟩
attribute [simp] closed_or
attribute [go_sem] length_dgs length_sts one_spC
attribute [simp] closed_dgs closed_sts closed_spC
theorem script_MaySetup (s:Su) (hs:s.m.length=32) (nd ne:Bool):APure cx 19 [.agg (suC s nd ne)] (.bool (decide (MaySu s))):=by
 obtain ⟨g,i,m,d,e⟩:=s
 unfold suC MaySu
 simp only at hs ⊢
 refine pure_fnK cxOk Tryz.func19 (fun _=>false) (fe19.q) (by kernel_rfl) (by dsimp only [Tryz.f19,go_sem,seval,liteO,Option.map,List.map];exact .mk _) ?_
 dsimp only [Tryz.f19,frame0,List.zipIdx,List.map,Nat.reduceAdd]
 try simp only [List.getElem?_toArray,List.getElem?_cons_succ,List.getElem?_cons_zero,Option.bind_some]
 repeat' (first|(apply aL_boxI;(case hg=>(simp (disch:=first|omega|(simp only [go_sem];omega)) only [go_sem,seval]));(case h=>(simp (disch:=first|omega|(simp only [go_sem];omega)) only [go_sem,seval]<;>with_reducible rfl));(case hf=>(simp only [go_sem]<;>with_reducible rfl));(case hs=>(simp (disch:=first|omega|(simp only [go_sem];omega)) only [go_sem,seval])))|refine aC_seq ?_|refine aC_reg rfl ?_|refine aC_ret ?_|refine thenQ_normal ?_|refine aL_nil ?_|(apply aL_step;(·exact True.intro);(iterate 2 (·simp (disch:=first|omega|(simp only [go_sem];omega)) only [go_sem,seval]<;>with_reducible rfl));(·simp only [go_sem]<;>with_reducible rfl))|(refine aL_skip ?_ (by simp only [go_sem]<;>with_reducible rfl) ?_;(·simp (disch:=first|omega|(simp only [go_sem];omega)) only [go_sem,seval]))|(apply aL_guardP;(·simp (disch:=first|omega|(simp only [go_sem];omega)) only [go_sem,seval]<;>with_reducible rfl);all_goals (intro h;first|(exfalso;omega)|(simp only [h,decide_true,decide_false,not_true,not_false_iff])))|fail)
 all_goals try (first|exact True.intro|exact not_false|omega|(simp (disch:=first|omega|(simp only [go_sem];omega)) only [go_sem,seval]<;>omega))
 all_goals try (simp (disch:=first|omega|(simp only [go_sem];omega)) only [go_sem,seval])
 all_goals try simp
 all_goals try (rw [Bool.eq_iff_iff];simp;omega)
 all_goals try (intros;omega)
def digT (w m:List UInt8):List UInt8:=w++32::hexl m
def modeT (i:Bool):List UInt8:=if i then [105,100,101,97,108] else [99,111,110,99,114,101,116,101]
theorem script_digest (w m:List UInt8) (hw:w.length≤100) (hm:m.length=32):APure cx 63 [.str w,.agg (bl m)] (.str (digT w m)):=by
 have hh:=wire_hex false m (by omega)
 have hhl:=hexl_length m
 have e:digT w m=(w++[32])++hexl m:=by simp [digT]
 rw [e]
 generalize hexl m=X at *
 refine pure_fnK cxOk Tryz.func63 (fun _=>false) (fe63.q) (by kernel_rfl) (by dsimp only [Tryz.f63,go_sem,seval,liteO,Option.map,List.map];exact .mk _) ?_
 dsimp only [Tryz.f63,frame0,List.zipIdx,List.map,Nat.reduceAdd]
 try simp only [List.getElem?_toArray,List.getElem?_cons_succ,List.getElem?_cons_zero,Option.bind_some]
 repeat' (first|(apply aL_boxI;(case hg=>(simp (disch:=first|omega|(simp only [go_sem];omega)) only [go_sem,seval]));(case h=>(simp (disch:=first|omega|(simp only [go_sem];omega)) only [go_sem,seval]<;>with_reducible rfl));(case hf=>(simp only [go_sem]<;>with_reducible rfl));(case hs=>(simp (disch:=first|omega|(simp only [go_sem];omega)) only [go_sem,seval])))|refine aC_seq ?_|refine aC_reg rfl ?_|refine aC_ret ?_|refine thenQ_normal ?_|refine aL_nil ?_|(apply aL_step;(·exact True.intro);(iterate 2 (·simp (disch:=first|omega|(simp only [go_sem];omega)) only [go_sem,seval]<;>with_reducible rfl));(·simp only [go_sem]<;>with_reducible rfl))|(apply aL_pK cxG (hh);(iterate 2 (·simp (disch:=first|omega|(simp only [go_sem];omega)) only [go_sem,seval]<;>with_reducible rfl));(·simp only [go_sem]<;>with_reducible rfl);(·simp))|fail)
 all_goals try (first|exact True.intro|exact not_false|omega|(simp (disch:=first|omega|(simp only [go_sem];omega)) only [go_sem,seval]<;>omega))
 all_goals clear hh
 all_goals try (simp (disch:=first|omega|(simp only [go_sem];omega)) only [go_sem,seval])
 all_goals try simp
theorem script_mode (i:Bool):APure cx 62 [.bool i] (.str (modeT i)):=by
 cases i
 all_goals
 refine pure_fnK cxOk Tryz.func62 (fun _=>false) (fe62.q) (by kernel_rfl) (by dsimp only [Tryz.f62,go_sem,seval,liteO,Option.map,List.map];exact .mk _) ?_
 dsimp only [Tryz.f62,frame0,List.zipIdx,List.map,Nat.reduceAdd]
 try simp only [List.getElem?_toArray,List.getElem?_cons_succ,List.getElem?_cons_zero,Option.bind_some]
 repeat' (first|refine aC_seq ?_|refine aC_reg rfl ?_|refine aC_skip ?_|refine aC_ret ?_|refine thenQ_normal ?_|refine thenQ_ret ?_|refine aL_nil ?_|(apply aL_step;(·exact True.intro);(iterate 2 (·simp (disch:=first|omega|(simp only [go_sem];omega)) only [go_sem,seval]<;>with_reducible rfl));(·simp only [go_sem]<;>with_reducible rfl))|(refine aC_condT ?_ ?_;(·simp (disch:=first|omega|(simp only [go_sem];omega)) only [go_sem,seval]))|(refine aC_condF ?_ ?_;(·simp (disch:=first|omega|(simp only [go_sem];omega)) only [go_sem,seval]))|fail)
 all_goals try (first|exact True.intro|exact not_false|omega|(simp (disch:=first|omega|(simp only [go_sem];omega)) only [go_sem,seval]<;>omega))
 all_goals try (simp (disch:=first|omega|(simp only [go_sem];omega)) only [go_sem,seval])
 all_goals try simp [modeT]
def MuchS (s:Su) (l:List (Sp × Bool)):Prop:=100<s.d.length∨100<s.e.length∨200<l.length∨∃ p∈l,5000<p.1.b.length
instance (s:Su) (l:List (Sp × Bool)):Decidable (MuchS s l):=by unfold MuchS;infer_instance
end
end Go.Am
end
section
namespace Go.Am
open Go Go.Proofs
set_option maxHeartbeats 8000000
set_option maxRecDepth 100000
section
attribute [local irreducible] aC aL thenQ blockQ scopeQ ALoop AWp
theorem take_step {α:Type} {a b:List α} {k:Nat} (ha:k<a.length) (hb:k<b.length) (h:a.take k=b.take k) (e:a[k]=b[k]):a.take (k+1)=b.take (k+1):=by
 rw [List.take_succ_eq_append_getElem ha,List.take_succ_eq_append_getElem hb,h,e]
theorem ne_at {α:Type} {a b:List α} {k:Nat} (ha:k<a.length) (hb:k<b.length) (e:¬ a[k]=b[k]):a≠b:=by
 rintro rfl;exact e rfl
def stp (l:List (Sp × Bool)):List Sp:=l.map (·.1)
theorem stp_take (l:List (Sp × Bool)) (k:Nat):(stp l).take k=stp (l.take k):=by simp [stp]
theorem stp_get (l:List (Sp × Bool)) (k:Nat) (h:k<l.length):(stp l)[k]'(by simpa [stp] using h)=l[k].1:=by simp [stp]
theorem bels_bl' (n:Nat) (l:List UInt8):bels n (bl l)=true:=bels_iff.2 fun x hx=>by obtain ⟨b,_,rfl⟩:=List.mem_map.1 hx;rfl
theorem bels_spC (n:Nat) (s:Sp) (nl:Bool):bels n (spC s nl .any)=true:=bels_iff.2 fun x hx=>by
 simp only [spC,List.mem_cons,List.mem_append,List.not_mem_nil,or_false] at hx
 rcases hx with rfl|rfl|hx|rfl|rfl|rfl
 ·rfl
 ·rfl
 ·exact bels_iff.1 (bels_wl n s.xs) x hx
 ·rfl
 ·rfl
 ·simp [bel,belT,bels_bl']
theorem bels_sts (n:Nat) (l:List (Sp × Bool)):bels n (sts l)=true:=bels_iff.2 fun x hx=>by obtain ⟨p,_,rfl⟩:=List.mem_map.1 hx;simp [bel,bels_spC]
end
end Go.Am
end
section
namespace Go.Am
open Go Go.Proofs
set_option maxHeartbeats 8000000
set_option maxRecDepth 100000
section
attribute [local irreducible] aC aL thenQ blockQ scopeQ ALoop AWp
theorem ref_sameSetup (s s':Su) (hs:s.Ok) (hs':s'.Ok) (nd ne nd' ne':Bool) (hl:s.d.length≤1048576∧s.e.length≤1048576) (hl':s'.d.length≤1048576∧s'.e.length≤1048576) :
  APure cx 46 [.agg (suC s nd ne),.agg (suC s' nd' ne')] (.bool (decide (s=s'))):=by
 have m1:=hs.m32
 have m2:=hs'.m32
 have d1:=hs.d32
 have d2:=hs'.d32
 clear hs hs'
 obtain ⟨g,i,m,d,e⟩:=s
 obtain ⟨g',i',m',d',e'⟩:=s'
 unfold suC
 simp only [Su.mk.injEq] at *
 obtain ⟨hl1,hl2⟩:=hl
 obtain ⟨hl3,hl4⟩:=hl'
 by_cases hall:g=g'∧i=i'∧m=m'∧d.length=d'.length∧e.length=e'.length
 case neg =>
  by_cases e1:g=g'
  case' neg=>rw [decide_eq_false (fun h=>e1 h.1)];have e2:True:=trivial;have e3:True:=trivial;have e4:True:=trivial;have e5:True:=trivial
  case' pos =>
   by_cases e2:i=i'
   case' neg=>rw [decide_eq_false (fun h=>e2 h.2.1)];have e3:True:=trivial;have e4:True:=trivial;have e5:True:=trivial
   case' pos =>
    by_cases e3:m=m'
    case' neg=>rw [decide_eq_false (fun h=>e3 h.2.2.1)];have e4:True:=trivial;have e5:True:=trivial
    case' pos =>
     by_cases e4':d.length=d'.length
     case' neg=>rw [decide_eq_false (fun h=>e4' (congrArg List.length h.2.2.2.1))];have e5:True:=trivial;have e4:¬ (d.length:Int)=(d'.length:Int):=by omega
     case' pos =>
      have e4:(d.length:Int)=(d'.length:Int):=by omega
      have e5':¬ e.length=e'.length:=fun h=>hall ⟨e1,e2,e3,e4',h⟩
      rw [decide_eq_false (fun h=>e5' (congrArg List.length h.2.2.2.2))]
      have e5:¬ (e.length:Int)=(e'.length:Int):=by omega
  all_goals
  clear hall
  refine pure_fnK cxOk Tryz.func46 (fun _=>false) (fe46.q) (by kernel_rfl) (by dsimp only [Tryz.f46,go_sem,seval,liteO,Option.map,List.map];exact .mk _) ?_
  dsimp only [Tryz.f46,frame0,List.zipIdx,List.map,Nat.reduceAdd]
  try simp only [List.getElem?_toArray,List.getElem?_cons_succ,List.getElem?_cons_zero,Option.bind_some]
  repeat' (first|(apply aL_boxI;(case hg=>(simp (disch:=first|omega|(simp only [go_sem];omega)) only [go_sem,seval,e1,e2,e3,e4,e5,eq_self_iff_true,decide_true,decide_false,not_true_eq_false,not_false_eq_true,beq_self_eq_true]));(case h=>(simp (disch:=first|omega|(simp only [go_sem];omega)) only [go_sem,seval,e1,e2,e3,e4,e5,eq_self_iff_true,decide_true,decide_false,not_true_eq_false,not_false_eq_true,beq_self_eq_true]<;>with_reducible rfl));(case hf=>(simp only [go_sem]<;>with_reducible rfl));(case hs=>(simp (disch:=first|omega|(simp only [go_sem];omega)) only [go_sem,seval,e1,e2,e3,e4,e5,eq_self_iff_true,decide_true,decide_false,not_true_eq_false,not_false_eq_true,beq_self_eq_true])))|refine aC_seq ?_|refine aC_reg rfl ?_|refine aC_ret ?_|refine thenQ_normal ?_|refine thenQ_ret ?_|refine aL_nil ?_|(apply aL_step;(·exact True.intro);(iterate 2 (·simp (disch:=first|omega|(simp only [go_sem];omega)) only [go_sem,seval,e1,e2,e3,e4,e5,eq_self_iff_true,decide_true,decide_false,not_true_eq_false,not_false_eq_true,beq_self_eq_true]<;>with_reducible rfl));(·simp only [go_sem]<;>with_reducible rfl))|(refine aL_skip ?_ (by simp only [go_sem]<;>with_reducible rfl) ?_;(·simp (disch:=first|omega|(simp only [go_sem];omega)) only [go_sem,seval,e1,e2,e3,e4,e5,eq_self_iff_true,decide_true,decide_false,not_true_eq_false,not_false_eq_true,beq_self_eq_true]))|(refine aC_condT ?_ ?_;(·simp (disch:=first|omega|(simp only [go_sem];omega)) only [go_sem,seval,e1,e2,e3,e4,e5,eq_self_iff_true,decide_true,decide_false,not_true_eq_false,not_false_eq_true,beq_self_eq_true]))|fail)
  all_goals try (first|exact True.intro|exact not_false|omega|(simp (disch:=first|omega|(simp only [go_sem];omega)) only [go_sem,seval]<;>omega))
  all_goals try (simp (disch:=first|omega|(simp only [go_sem];omega)) only [go_sem,seval])
  all_goals try simp
  all_goals try (first|exact ⟨by kernel_rfl,by kernel_rfl,skb_dg m1,skb_dg m2⟩|exact ⟨by kernel_rfl,by kernel_rfl,skb_dg m2⟩)
 case pos =>
  obtain ⟨rfl,rfl,rfl,e4',e5'⟩:=hall
  have e4:(d.length:Int)=(d'.length:Int):=by omega
  have e5:(e.length:Int)=(e'.length:Int):=by omega
  generalize hr:decide (g=g∧i=i∧m=m∧d=d'∧e=e')=r
  have hyes:d.take d.length=d'.take d.length→e.take e.length=e'.take e.length→r=true:=fun h h'=>by
   rw [← hr];refine decide_eq_true ?_
   rw [List.take_length] at h h'
   rw [e4',List.take_length] at h
   rw [e5',List.take_length] at h'
   exact ⟨rfl,rfl,rfl,h,h'⟩
  have hno1:∀ (k:Nat) (h1:k<d.length) (h2:k<d'.length),¬ d[k]=d'[k]→r=false:=fun k h1 h2 h3=>by
   rw [← hr]
   exact decide_eq_false (fun h=>ne_at h1 h2 h3 h.2.2.2.1)
  have hno2:∀ (k:Nat) (h1:k<e.length) (h2:k<e'.length),¬ e[k]=e'[k]→r=false:=fun k h1 h2 h3=>by
   rw [← hr]
   exact decide_eq_false (fun h=>ne_at h1 h2 h3 h.2.2.2.2)
  clear hr
  refine pure_fnK cxOk Tryz.func46 (fun _=>false) (fe46.q) (by kernel_rfl) (by dsimp only [Tryz.f46,go_sem,seval,liteO,Option.map,List.map];exact .mk _) ?_
  dsimp only [Tryz.f46,frame0,List.zipIdx,List.map,Nat.reduceAdd]
  try simp only [List.getElem?_toArray,List.getElem?_cons_succ,List.getElem?_cons_zero,Option.bind_some]
  repeat' (first|(apply aL_boxI;(case hg=>(simp (disch:=first|omega|(simp only [go_sem];omega)) only [go_sem,seval,e4,e5,eq_self_iff_true,decide_true,decide_false,not_true_eq_false,not_false_eq_true,beq_self_eq_true]));(case h=>(simp (disch:=first|omega|(simp only [go_sem];omega)) only [go_sem,seval,e4,e5,eq_self_iff_true,decide_true,decide_false,not_true_eq_false,not_false_eq_true,beq_self_eq_true]<;>with_reducible rfl));(case hf=>(simp only [go_sem]<;>with_reducible rfl));(case hs=>(simp (disch:=first|omega|(simp only [go_sem];omega)) only [go_sem,seval,e4,e5,eq_self_iff_true,decide_true,decide_false,not_true_eq_false,not_false_eq_true,beq_self_eq_true])))|refine aC_seq ?_|refine aC_reg rfl ?_|refine aC_block ?_|refine aC_skip ?_|refine aC_loop ?_|refine thenQ_normal ?_|refine aL_nil ?_|(apply aL_step;(·exact True.intro);(iterate 2 (·simp (disch:=first|omega|(simp only [go_sem];omega)) only [go_sem,seval,e4,e5,eq_self_iff_true,decide_true,decide_false,not_true_eq_false,not_false_eq_true,beq_self_eq_true]<;>with_reducible rfl));(·simp only [go_sem]<;>with_reducible rfl))|(refine aC_condF ?_ ?_;(·simp (disch:=first|omega|(simp only [go_sem];omega)) only [go_sem,seval,e4,e5,eq_self_iff_true,decide_true,decide_false,not_true_eq_false,not_false_eq_true,beq_self_eq_true]))|fail)
  ·refine loop_rule (cxOk.wp _ _) (σ:=Nat) (fun k=>[(5,.int .i64 k),(3,.cptr (.int .i64 g :: .bool i::(bl m++[.sl 32 nd' (dgs d') .any,.sl 1 ne' (wl e') .any]))),(2,.cptr (.int .i64 g :: .bool i::(bl m++[.sl 32 nd (dgs d) .any,.sl 1 ne (wl e) .any])))])
    (fun _=>[]) (fun k=>d.length-k) (fun k=>k≤d.length∧d.take k=d'.take k) 0 (GStep.refl _ _) ⟨⟨Nat.zero_le _,by simp⟩,Sub.of_all (by simp [Fr.get]),rfl⟩ ?_
   rintro k ⟨hk,hJ⟩
   by_cases hlt:k<d.length
   ·have hlb:k<d'.length:=by omega
    have g1:=getD_dgs d k .any hlt
    have g2:=getD_dgs d' k .any hlb
    have l1:=d1 _ (List.getElem_mem hlt)
    have l2:=d2 _ (List.getElem_mem hlb)
    have hq:=take_step hlt hlb hJ
    have hq2:=hno1 k hlt hlb
    clear hno1 hno2 hyes hJ
    by_cases he:d[k]=d'[k]
    case' pos=>have hq3:=hq he;clear hq2 hq
    case' neg=>rw [hq2 he];clear hq hq2
    all_goals
    generalize d[k]=x at *
    generalize d'[k]=y at *
    repeat' (first|refine aC_seq ?_|refine aC_reg rfl ?_|refine aC_block ?_|refine aC_skip ?_|refine aC_ret ?_|refine thenQ_normal ?_|refine blockQ_normal ?_|refine thenQ_ret ?_|refine blockQ_ret ?_|refine aL_nil ?_|(apply aL_step;(·exact True.intro);(iterate 2 (·simp (disch:=first|omega|(simp only [go_sem];omega)) only [go_sem,seval,g1,g2,he,eq_self_iff_true,decide_true,decide_false,not_true_eq_false,not_false_eq_true]<;>with_reducible rfl));(·simp only [go_sem]<;>with_reducible rfl))|(refine aC_condT ?_ ?_;(·simp (disch:=first|omega|(simp only [go_sem];omega)) only [go_sem,seval,g1,g2,he,eq_self_iff_true,decide_true,decide_false,not_true_eq_false,not_false_eq_true]))|(refine aC_condF ?_ ?_;(·simp (disch:=first|omega|(simp only [go_sem];omega)) only [go_sem,seval,g1,g2,he,eq_self_iff_true,decide_true,decide_false,not_true_eq_false,not_false_eq_true]))|(refine aC_condP (by simp (disch:=first|omega|(simp only [go_sem];omega)) only [go_sem,seval,g1,g2,he,eq_self_iff_true,decide_true,decide_false,not_true_eq_false,not_false_eq_true]<;>with_reducible rfl) ?_ ?_<;>(intro h;first|(exfalso;omega)|skip))|fail)
    all_goals try (first|exact True.intro|exact not_false|omega|(simp (disch:=first|omega|(simp only [go_sem];omega)) only [go_sem,seval]<;>omega))
    all_goals try (exact ⟨k+1,⟨by omega,hq3⟩,Sub.of_all (by simp [Fr.get]),rfl,by omega⟩)
    all_goals try (simp (disch:=first|omega|(simp only [go_sem];omega)) only [go_sem,seval])
    all_goals try simp
    all_goals try (first|exact ⟨by kernel_rfl,by kernel_rfl,skb_dg l1,skb_dg l2⟩|exact ⟨by kernel_rfl,by kernel_rfl,skb_dg l2⟩)
   ·have hk2:k=d.length:=by omega
    subst hk2
    have hy:=hyes hJ
    clear hno1 hyes hJ
    repeat' (first|refine aC_seq ?_|refine aC_reg rfl ?_|refine aC_block ?_|refine aC_loop ?_|refine aC_exit ?_|refine thenQ_normal ?_|refine thenQ_exit ?_|refine blockQ_hit ?_|refine aL_nil ?_|(apply aL_step;(·exact True.intro);(iterate 2 (·simp (disch:=first|omega|(simp only [go_sem];omega)) only [go_sem,seval]<;>with_reducible rfl));(·simp only [go_sem]<;>with_reducible rfl))|(refine aC_condP (by simp (disch:=first|omega|(simp only [go_sem];omega)) only [go_sem,seval]<;>with_reducible rfl) ?_ ?_<;>(intro h;first|(exfalso;omega)|skip))|fail)
    ·refine loop_rule (cxOk.wp _ _) (σ:=Nat) (fun k=>[(6,.int .i64 k),(3,.cptr (.int .i64 g :: .bool i::(bl m++[.sl 32 nd' (dgs d') .any,.sl 1 ne' (wl e') .any]))),(2,.cptr (.int .i64 g :: .bool i::(bl m++[.sl 32 nd (dgs d) .any,.sl 1 ne (wl e) .any])))])
      (fun _=>[]) (fun k=>e.length-k) (fun k=>k≤e.length∧e.take k=e'.take k) 0 (GStep.refl _ _) ⟨⟨Nat.zero_le _,by simp⟩,Sub.of_all (by simp [Fr.get]),rfl⟩ ?_
     rintro k ⟨hk,hJ⟩
     by_cases hlt:k<e.length
     ·have hlb:k<e'.length:=by omega
      have g1:=getD_wlx e k .any hlt
      have g2:=getD_wlx e' k .any hlb
      have hq:=take_step hlt hlb hJ
      have hq2:=hno2 k hlt hlb
      clear hno2 hy hJ
      by_cases he:e[k]=e'[k]
      case' pos=>have hq3:=hq he;clear hq2 hq;have he2:((e[k]:Nat):Int)=((e'[k]:Nat):Int):=by omega
      case' neg=>rw [hq2 he];clear hq hq2;have he2:¬ ((e[k]:Nat):Int)=((e'[k]:Nat):Int):=by omega
      all_goals
      generalize e[k]=x at *
      generalize e'[k]=y at *
      repeat' (first|refine aC_seq ?_|refine aC_reg rfl ?_|refine aC_block ?_|refine aC_skip ?_|refine aC_ret ?_|refine thenQ_normal ?_|refine blockQ_normal ?_|refine thenQ_ret ?_|refine blockQ_ret ?_|refine aL_nil ?_|(apply aL_step;(·exact True.intro);(iterate 2 (·simp (disch:=first|omega|(simp only [go_sem];omega)) only [go_sem,seval,g1,g2,he2,eq_self_iff_true,decide_true,decide_false,not_true_eq_false,not_false_eq_true]<;>with_reducible rfl));(·simp only [go_sem]<;>with_reducible rfl))|(refine aC_condT ?_ ?_;(·simp (disch:=first|omega|(simp only [go_sem];omega)) only [go_sem,seval,g1,g2,he2,eq_self_iff_true,decide_true,decide_false,not_true_eq_false,not_false_eq_true]))|(refine aC_condF ?_ ?_;(·simp (disch:=first|omega|(simp only [go_sem];omega)) only [go_sem,seval,g1,g2,he2,eq_self_iff_true,decide_true,decide_false,not_true_eq_false,not_false_eq_true]))|(refine aC_condP (by simp (disch:=first|omega|(simp only [go_sem];omega)) only [go_sem,seval,g1,g2,he2,eq_self_iff_true,decide_true,decide_false,not_true_eq_false,not_false_eq_true]<;>with_reducible rfl) ?_ ?_<;>(intro h;first|(exfalso;omega)|skip))|fail)
      all_goals try (first|exact True.intro|exact not_false|omega|(simp (disch:=first|omega|(simp only [go_sem];omega)) only [go_sem,seval]<;>omega))
      all_goals try (exact ⟨k+1,⟨by omega,hq3⟩,Sub.of_all (by simp [Fr.get]),rfl,by omega⟩)
      all_goals try (simp (disch:=first|omega|(simp only [go_sem];omega)) only [go_sem,seval])
      all_goals try simp
     ·have hk2:k=e.length:=by omega
      subst hk2
      rw [hy hJ]
      clear hno2 hy hJ
      repeat' (first|refine aC_seq ?_|refine aC_reg rfl ?_|refine aC_exit ?_|refine aC_ret ?_|refine thenQ_normal ?_|refine thenQ_exit ?_|refine blockQ_hit ?_|refine aL_nil ?_|(apply aL_step;(·exact True.intro);(iterate 2 (·simp (disch:=first|omega|(simp only [go_sem];omega)) only [go_sem,seval]<;>with_reducible rfl));(·simp only [go_sem]<;>with_reducible rfl))|(refine aC_condP (by simp (disch:=first|omega|(simp only [go_sem];omega)) only [go_sem,seval]<;>with_reducible rfl) ?_ ?_<;>(intro h;first|(exfalso;omega)|skip))|fail)
      all_goals try (first|exact True.intro|exact not_false|omega|(simp (disch:=first|omega|(simp only [go_sem];omega)) only [go_sem,seval]<;>omega))
      all_goals try (simp (disch:=first|omega|(simp only [go_sem];omega)) only [go_sem,seval])
      all_goals try simp
    all_goals first|trivial|omega
  all_goals try (simp (disch:=first|omega|(simp only [go_sem];omega)) only [go_sem,seval])
  all_goals try simp
  all_goals try (first|exact ⟨by kernel_rfl,by kernel_rfl,skb_dg m1⟩|exact ⟨by kernel_rfl,by kernel_rfl,skb_dg m1,skb_dg m1⟩|omega)
theorem ref_Same (s s':Su) (hs:s.Ok) (hs':s'.Ok) (nd ne ns nd' ne' ns':Bool) (l l':List (Sp × Bool)) (hx:∀ p∈l,p.1.xs.length=6∧p.1.b.length≤1048576) (hx':∀ p∈l',p.1.xs.length=6∧p.1.b.length≤1048576)
  (hl:s.d.length≤1048576∧s.e.length≤1048576∧l.length≤1048576) (hl':s'.d.length≤1048576∧s'.e.length≤1048576∧l'.length≤1048576) :
  APure cx 15 [.agg (scC s nd ne l ns),.agg (scC s' nd' ne' l' ns')] (.bool (decide (s=s'∧stp l=stp l'))):=by
 have q1:=ref_sameSetup s s' hs hs' nd ne nd' ne' ⟨hl.1,hl.2.1⟩ ⟨hl'.1,hl'.2.1⟩
 have m1:=hs.m32
 have m2:=hs'.m32
 have hl3:=hl.2.2
 have hl4:=hl'.2.2
 clear hs hs' hl hl'
 obtain ⟨g,i,m,d,e⟩:=s
 obtain ⟨g',i',m',d',e'⟩:=s'
 generalize hr:decide ((⟨g,i,m,d,e⟩ : Su)=⟨g',i',m',d',e'⟩∧stp l=stp l')=r
 unfold scC
 unfold suC at q1
 simp only at *
 by_cases e1:(⟨g,i,m,d,e⟩ : Su)=⟨g',i',m',d',e'⟩
 case neg =>
  rw [decide_eq_false e1] at q1
  rw [decide_eq_false (fun h=>e1 h.1)] at hr
  subst hr
  refine pure_fnK cxOk Tryz.func15 (fun _=>false) (fe15.q) (by kernel_rfl) (by dsimp only [Tryz.f15,go_sem,seval,liteO,Option.map,List.map];exact .mk _) ?_
  dsimp only [Tryz.f15,frame0,List.zipIdx,List.map,Nat.reduceAdd]
  try simp only [List.getElem?_toArray,List.getElem?_cons_succ,List.getElem?_cons_zero,Option.bind_some]
  repeat' (first|(apply aL_boxI;(case hg=>(simp (disch:=first|omega|(simp only [go_sem];omega)) only [go_sem,seval,eq_self_iff_true,decide_true,decide_false,not_true_eq_false,not_false_eq_true,beq_self_eq_true]));(case h=>(simp (disch:=first|omega|(simp only [go_sem];omega)) only [go_sem,seval,eq_self_iff_true,decide_true,decide_false,not_true_eq_false,not_false_eq_true,beq_self_eq_true]<;>with_reducible rfl));(case hf=>(simp only [go_sem]<;>with_reducible rfl));(case hs=>(simp (disch:=first|omega|(simp only [go_sem];omega)) only [go_sem,seval,eq_self_iff_true,decide_true,decide_false,not_true_eq_false,not_false_eq_true,beq_self_eq_true])))|refine aC_seq ?_|refine aC_reg rfl ?_|refine aC_ret ?_|refine thenQ_normal ?_|refine thenQ_ret ?_|refine aL_nil ?_|(apply aL_step;(·exact True.intro);(iterate 2 (·simp (disch:=first|omega|(simp only [go_sem];omega)) only [go_sem,seval,eq_self_iff_true,decide_true,decide_false,not_true_eq_false,not_false_eq_true,beq_self_eq_true]<;>with_reducible rfl));(·simp only [go_sem]<;>with_reducible rfl))|(refine aL_skip ?_ (by simp only [go_sem]<;>with_reducible rfl) ?_;(·simp (disch:=first|omega|(simp only [go_sem];omega)) only [go_sem,seval,eq_self_iff_true,decide_true,decide_false,not_true_eq_false,not_false_eq_true,beq_self_eq_true]))|(refine aC_condT ?_ ?_;(·simp (disch:=first|omega|(simp only [go_sem];omega)) only [go_sem,seval,eq_self_iff_true,decide_true,decide_false,not_true_eq_false,not_false_eq_true,beq_self_eq_true]))|(apply aL_pK cxG (q1);(iterate 2 (·simp (disch:=first|omega|(simp only [go_sem];omega)) only [go_sem,seval,eq_self_iff_true,decide_true,decide_false,not_true_eq_false,not_false_eq_true,beq_self_eq_true]<;>with_reducible rfl));(·simp only [go_sem]<;>with_reducible rfl);(·simp))|fail)
  all_goals try (first|exact True.intro|exact not_false|omega|(simp (disch:=first|omega|(simp only [go_sem];omega)) only [go_sem,seval]<;>omega))
  all_goals clear q1
  all_goals try (simp (disch:=first|omega|(simp only [go_sem];omega)) only [go_sem,seval])
  all_goals try simp
 case pos =>
 rw [decide_eq_true e1] at q1
 by_cases e2:l.length=l'.length
 case neg =>
  rw [decide_eq_false (fun h=>e2 (by simpa [stp] using congrArg List.length h.2))] at hr
  subst hr
  have e2':¬ (l.length:Int)=(l'.length:Int):=by omega
  refine pure_fnK cxOk Tryz.func15 (fun _=>false) (fe15.q) (by kernel_rfl) (by dsimp only [Tryz.f15,go_sem,seval,liteO,Option.map,List.map];exact .mk _) ?_
  dsimp only [Tryz.f15,frame0,List.zipIdx,List.map,Nat.reduceAdd]
  try simp only [List.getElem?_toArray,List.getElem?_cons_succ,List.getElem?_cons_zero,Option.bind_some]
  repeat' (first|(apply aL_boxI;(case hg=>(simp (disch:=first|omega|(simp only [go_sem];omega)) only [go_sem,seval,e2',eq_self_iff_true,decide_true,decide_false,not_true_eq_false,not_false_eq_true,beq_self_eq_true]));(case h=>(simp (disch:=first|omega|(simp only [go_sem];omega)) only [go_sem,seval,e2',eq_self_iff_true,decide_true,decide_false,not_true_eq_false,not_false_eq_true,beq_self_eq_true]<;>with_reducible rfl));(case hf=>(simp only [go_sem]<;>with_reducible rfl));(case hs=>(simp (disch:=first|omega|(simp only [go_sem];omega)) only [go_sem,seval,e2',eq_self_iff_true,decide_true,decide_false,not_true_eq_false,not_false_eq_true,beq_self_eq_true])))|refine aC_seq ?_|refine aC_reg rfl ?_|refine aC_ret ?_|refine thenQ_normal ?_|refine thenQ_ret ?_|refine aL_nil ?_|(apply aL_step;(·exact True.intro);(iterate 2 (·simp (disch:=first|omega|(simp only [go_sem];omega)) only [go_sem,seval,e2',eq_self_iff_true,decide_true,decide_false,not_true_eq_false,not_false_eq_true,beq_self_eq_true]<;>with_reducible rfl));(·simp only [go_sem]<;>with_reducible rfl))|(refine aC_condT ?_ ?_;(·simp (disch:=first|omega|(simp only [go_sem];omega)) only [go_sem,seval,e2',eq_self_iff_true,decide_true,decide_false,not_true_eq_false,not_false_eq_true,beq_self_eq_true]))|(apply aL_pK cxG (q1);(iterate 2 (·simp (disch:=first|omega|(simp only [go_sem];omega)) only [go_sem,seval,e2',eq_self_iff_true,decide_true,decide_false,not_true_eq_false,not_false_eq_true,beq_self_eq_true]<;>with_reducible rfl));(·simp only [go_sem]<;>with_reducible rfl);(·simp))|fail)
  all_goals try (first|exact True.intro|exact not_false|omega|(simp (disch:=first|omega|(simp only [go_sem];omega)) only [go_sem,seval]<;>omega))
  all_goals clear q1
  all_goals try (simp (disch:=first|omega|(simp only [go_sem];omega)) only [go_sem,seval])
  all_goals try simp
 case pos =>
 have e2':(l.length:Int)=(l'.length:Int):=by omega
 have hyes:(stp l).take l.length=(stp l').take l.length→r=true:=fun h=>by
  rw [← hr];refine decide_eq_true ⟨e1,?_⟩
  rw [stp_take,stp_take,List.take_length] at h
  rw [e2,List.take_length] at h
  exact h
 have hno:∀ (k:Nat) (h1:k<l.length) (h2:k<l'.length),¬ l[k].1=l'[k].1→r=false:=fun k h1 h2 h3=>by
  rw [← hr]
  exact decide_eq_false (fun h=>ne_at (k:=k) (by simpa [stp] using h1) (by simpa [stp] using h2) (by rw [stp_get l k h1,stp_get l' k h2];exact h3) h.2)
 clear hr e1
 refine pure_fnK cxOk Tryz.func15 (fun _=>false) (fe15.q) (by kernel_rfl) (by dsimp only [Tryz.f15,go_sem,seval,liteO,Option.map,List.map];exact .mk _) ?_
 dsimp only [Tryz.f15,frame0,List.zipIdx,List.map,Nat.reduceAdd]
 try simp only [List.getElem?_toArray,List.getElem?_cons_succ,List.getElem?_cons_zero,Option.bind_some]
 repeat' (first|(apply aL_boxI;(case hg=>(simp (disch:=first|omega|(simp only [go_sem];omega)) only [go_sem,seval,e2',eq_self_iff_true,decide_true,decide_false,not_true_eq_false,not_false_eq_true,beq_self_eq_true]));(case h=>(simp (disch:=first|omega|(simp only [go_sem];omega)) only [go_sem,seval,e2',eq_self_iff_true,decide_true,decide_false,not_true_eq_false,not_false_eq_true,beq_self_eq_true]<;>with_reducible rfl));(case hf=>(simp only [go_sem]<;>with_reducible rfl));(case hs=>(simp (disch:=first|omega|(simp only [go_sem];omega)) only [go_sem,seval,e2',eq_self_iff_true,decide_true,decide_false,not_true_eq_false,not_false_eq_true,beq_self_eq_true])))|refine aC_seq ?_|refine aC_reg rfl ?_|refine aC_block ?_|refine aC_skip ?_|refine aC_loop ?_|refine thenQ_normal ?_|refine aL_nil ?_|(apply aL_step;(·exact True.intro);(iterate 2 (·simp (disch:=first|omega|(simp only [go_sem];omega)) only [go_sem,seval,e2',eq_self_iff_true,decide_true,decide_false,not_true_eq_false,not_false_eq_true,beq_self_eq_true]<;>with_reducible rfl));(·simp only [go_sem]<;>with_reducible rfl))|(refine aC_condF ?_ ?_;(·simp (disch:=first|omega|(simp only [go_sem];omega)) only [go_sem,seval,e2',eq_self_iff_true,decide_true,decide_false,not_true_eq_false,not_false_eq_true,beq_self_eq_true]))|(apply aL_pK cxG (q1);(iterate 2 (·simp (disch:=first|omega|(simp only [go_sem];omega)) only [go_sem,seval,e2',eq_self_iff_true,decide_true,decide_false,not_true_eq_false,not_false_eq_true,beq_self_eq_true]<;>with_reducible rfl));(·simp only [go_sem]<;>with_reducible rfl);(·simp))|fail)
 ·clear q1
  refine loop_rule (cxOk.wp _ _) (σ:=Nat) (fun k=>[(5,.int .i64 k),(3,.cptr (.int .i64 g' :: .bool i'::(bl m'++[.sl 32 nd' (dgs d') .any,.sl 1 ne' (wl e') .any,.sl 11 ns' (sts l') .any]))),(2,.cptr (.int .i64 g :: .bool i::(bl m++[.sl 32 nd (dgs d) .any,.sl 1 ne (wl e) .any,.sl 11 ns (sts l) .any])))])
   (fun _=>[]) (fun k=>l.length-k) (fun k=>k≤l.length∧(stp l).take k=(stp l').take k) 0 (GStep.refl _ _) ⟨⟨Nat.zero_le _,by simp⟩,Sub.of_all (by simp [Fr.get]),rfl⟩ ?_
  rintro k ⟨hk,hJ⟩
  by_cases hlt:k<l.length
  ·have hlb:k<l'.length:=by omega
   have g1:=getD_sts l k .any hlt
   have g2:=getD_sts l' k .any hlb
   have h6:=hx _ (List.getElem_mem hlt)
   have h6':=hx' _ (List.getElem_mem hlb)
   have hm:=ref_SameStep l[k].1 l'[k].1 h6.1 h6'.1 h6.2 h6'.2 l[k].2 l'[k].2
   have hq:=take_step (a:=stp l) (b:=stp l') (by simpa [stp] using hlt) (by simpa [stp] using hlb) hJ
   rw [stp_get l k hlt,stp_get l' k hlb] at hq
   have hq2:=hno k hlt hlb
   clear hno hyes hJ
   by_cases he:l[k].1=l'[k].1
   case' pos=>have hq3:=hq he;clear hq2 hq;rw [decide_eq_true he] at hm
   case' neg=>rw [hq2 he];clear hq hq2;rw [decide_eq_false he] at hm
   all_goals
   clear he
   generalize l[k]=x at *
   generalize l'[k]=y at *
   obtain ⟨⟨kk,op,xs,w1,w2,bb⟩,nb⟩:=x
   obtain ⟨⟨kk',op',xs',w1',w2',bb'⟩,nb'⟩:=y
   simp only at h6 h6' g1 g2 hm
   obtain ⟨x0,x1,x2,x3,x4,x5,rfl⟩:=six h6.1
   obtain ⟨y0,y1,y2,y3,y4,y5,rfl⟩:=six h6'.1
   simp only [spC_six] at g1 g2 hm
   repeat' (first|refine aC_seq ?_|refine aC_reg rfl ?_|refine aC_block ?_|refine aC_skip ?_|refine aC_ret ?_|refine thenQ_normal ?_|refine blockQ_normal ?_|refine thenQ_ret ?_|refine blockQ_ret ?_|refine aL_nil ?_|(apply aL_step;(·exact True.intro);(iterate 2 (·simp (disch:=first|omega|(simp only [go_sem];omega)) only [go_sem,seval,g1,g2,decide_true,decide_false,not_true_eq_false,not_false_eq_true]<;>with_reducible rfl));(·simp only [go_sem]<;>with_reducible rfl))|(refine aC_condT ?_ ?_;(·simp (disch:=first|omega|(simp only [go_sem];omega)) only [go_sem,seval,g1,g2,decide_true,decide_false,not_true_eq_false,not_false_eq_true]))|(refine aC_condF ?_ ?_;(·simp (disch:=first|omega|(simp only [go_sem];omega)) only [go_sem,seval,g1,g2,decide_true,decide_false,not_true_eq_false,not_false_eq_true]))|(refine aC_condP (by simp (disch:=first|omega|(simp only [go_sem];omega)) only [go_sem,seval,g1,g2,decide_true,decide_false,not_true_eq_false,not_false_eq_true]<;>with_reducible rfl) ?_ ?_<;>(intro h;first|(exfalso;omega)|skip))|(apply aL_pK cxG (hm);(iterate 2 (·simp (disch:=first|omega|(simp only [go_sem];omega)) only [go_sem,seval,g1,g2,decide_true,decide_false,not_true_eq_false,not_false_eq_true]<;>with_reducible rfl));(·simp only [go_sem]<;>with_reducible rfl);(·simp))|fail)
   all_goals try (first|exact True.intro|exact not_false|omega|(simp (disch:=first|omega|(simp only [go_sem];omega)) only [go_sem,seval]<;>omega))
   all_goals clear hm
   all_goals try (exact ⟨k+1,⟨by omega,hq3⟩,Sub.of_all (by simp [Fr.get]),rfl,by omega⟩)
   all_goals try (simp (disch:=first|omega|(simp only [go_sem];omega)) only [go_sem,seval])
   all_goals try simp
  ·have hk2:k=l.length:=by omega
   subst hk2
   rw [hyes hJ]
   clear hno hyes hJ
   repeat' (first|refine aC_seq ?_|refine aC_reg rfl ?_|refine aC_exit ?_|refine aC_ret ?_|refine thenQ_normal ?_|refine thenQ_exit ?_|refine blockQ_hit ?_|refine aL_nil ?_|(apply aL_step;(·exact True.intro);(iterate 2 (·simp (disch:=first|omega|(simp only [go_sem];omega)) only [go_sem,seval]<;>with_reducible rfl));(·simp only [go_sem]<;>with_reducible rfl))|(refine aC_condP (by simp (disch:=first|omega|(simp only [go_sem];omega)) only [go_sem,seval]<;>with_reducible rfl) ?_ ?_<;>(intro h;first|(exfalso;omega)|skip))|fail)
   all_goals try (first|exact True.intro|exact not_false|omega|(simp (disch:=first|omega|(simp only [go_sem];omega)) only [go_sem,seval]<;>omega))
   all_goals try (simp (disch:=first|omega|(simp only [go_sem];omega)) only [go_sem,seval])
   all_goals try simp
 all_goals try (simp (disch:=first|omega|(simp only [go_sem];omega)) only [go_sem,seval])
 all_goals try simp
 all_goals first|trivial|omega
end
end Go.Am
end
