/- cpu seat: strings.Builder: a builder's box. -/
import Derived.Test.YtodiaabcaahnjaaGreatDoorC31
import Derived.Test.YtodiaabcaahnjaaGreatDoorAmFresh
import Derived.Test.YtodiaabcaahnjaaGreatDoorAmSimp
import Derived.Test.YtodiaabcaahnjaaGreatDoorAmYield
import Derived.Test.YtodiaabcaahnjaaGreatDoorP01
set_option linter.unusedVariables false
set_option linter.unusedSimpArgs false
section
namespace Go.Am
open Go Go.Proofs
set_option maxHeartbeats 4000000
set_option maxRecDepth 100000
attribute [local irreducible] aC aL thenQ blockQ scopeQ ALoop AWp
theorem set_turn {α:Type} (l:List α) {i g:Nat} (h:i≠g) (x y z:α):(l.set i x).set g y=((l.set i z).set g y).set i x:=by
 apply List.ext_getElem?
 intro k
 by_cases h1:i=k
 ·subst h1
  rw [List.getElem?_set_ne (Ne.symm h)]
  by_cases hl:i<l.length
  ·rw [List.getElem?_set_self hl,List.getElem?_set_self (by simpa using hl)]
  ·rw [List.getElem?_eq_none (by simpa using hl),List.getElem?_eq_none (by simpa using hl)]
 ·rw [List.getElem?_set_ne h1]
  by_cases h2:g=k
  ·subst h2
   by_cases hl:g<l.length
   ·rw [List.getElem?_set_self (by simpa using hl),List.getElem?_set_self (by simpa using hl)]
   ·rw [List.getElem?_eq_none (by simpa using hl),List.getElem?_eq_none (by simpa using hl)]
  ·rw [List.getElem?_set_ne h2,List.getElem?_set_ne h2,List.getElem?_set_ne h1,List.getElem?_set_ne h1]
def bld (i g:Nat) (p:AVal) (bs:List UInt8):ABox:=.cells [p,.sl 1 bs.isEmpty (bl bs) (.own g)] 103
end Go.Am
end
section
namespace Go.Am
open Go Go.Proofs
set_option maxHeartbeats 4000000
set_option maxRecDepth 100000
attribute [local irreducible] aC aL thenQ blockQ scopeQ ALoop AWp
theorem write_byte {S:St} {i g:Nat} {p:AVal} {bs:List UInt8} {c:UInt8} (hp:p = .nilp∨p = .ptr i 0) (hS:S[i]? = some (bld i g p bs)) (hg:S[g]? = some (.grow bs.length 1 5)) (hl:bs.length≤1000000000000) :
  ACall cx 107 [.ptr i 0,.int .u8 c.toNat] S .nilifc ((S.set i (bld i g (.ptr i 0) (bs++[c]))).set g (.grow (bs.length+1) 1 5)):=by
 have hne:i≠g:=by
  rintro rfl
  rw [hS] at hg;cases hg
 have hi:i<S.length:=(List.getElem?_eq_some_iff.1 hS).1
 obtain ⟨S1,hS1⟩ : ∃ T:St,T=S.set i (bld i g (.ptr i 0) bs):=⟨_,rfl⟩
 have hc:ACall cx 93 [.ptr i 0] S (.tup []) S1:=by
  rw [hS1]
  exact bld_check bldOk hp hS
 have a1:S1[i]? = some (.cells [.ptr i 0,.sl 1 bs.isEmpty (bl bs) (.own g)] 103):=by rw [hS1,List.getElem?_set_self hi];rfl
 have a2:S1[g]? = some (.grow bs.length 1 5):=by rw [hS1,List.getElem?_set_ne hne];exact hg
 have a3:∀ x,(S1.set g x)[i]? = some (.cells [.ptr i 0,.sl 1 bs.isEmpty (bl bs) (.own g)] 103):=fun x=>by rw [List.getElem?_set_ne (Ne.symm hne)];exact a1
 have hfin:(S.set i (bld i g (.ptr i 0) (bs++[c]))).set g (.grow (bs.length+1) 1 5)=(S1.set g (.grow (bs.length+1) 1 5)).set i (.cells [.ptr i 0,.sl 1 false (bl (bs++[c])) (.own g)] 103):=by
  have hA:bld i g (.ptr i 0) (bs++[c]) = .cells [.ptr i 0,.sl 1 false (bl (bs++[c])) (.own g)] 103:=by
   unfold bld
   cases bs<;>simp [bl]
  rw [hA,hS1]
  exact set_turn S hne _ _ _
 rw [hfin]
 clear hfin
 generalize bs.isEmpty=e at *
 refine acall_fnK cxOk Tryz.func107 (fun _=>false) (fun _=>none) (by kernel_rfl) (by dsimp only [Tryz.f107,go_sem,seval,liteO,Option.map,List.map];exact .mk _) ?_
 dsimp only [Tryz.f107,frame0,List.zipIdx,List.map,Nat.reduceAdd]
 try simp only [List.getElem?_toArray,List.getElem?_cons_succ,List.getElem?_cons_zero,Option.bind_some]
 repeat' (first|refine aC_seq ?_|refine aC_reg rfl ?_|refine aC_ret ?_|refine thenQ_normal ?_|refine aL_nil ?_|(apply aL_step;(·exact True.intro);(iterate 2 (·simp (disch:=omega) only [go_sem,seval,a1,a2,a3]<;>with_reducible rfl));(·simp only [go_sem]<;>with_reducible rfl))|(apply aL_aK (hc);(·rfl);(iterate 2 (·simp (disch:=omega) only [go_sem,seval,a1,a2,a3]<;>with_reducible rfl));(·simp only [go_sem]<;>with_reducible rfl))|fail)
 all_goals try (first|exact True.intro|exact not_false|omega|(simp (disch:=omega) only [go_sem,seval]<;>omega))
theorem and15_all:((List.range 256).all fun n=>decide (bits .and .u8 (n:Int) 15=((n%16:Nat):Int)))=true:=by kernel_rfl
theorem and15 (b:UInt8):bits .and .u8 (b.toNat:Int) 15=((b.toNat%16:Nat):Int):=of_decide_eq_true (List.all_eq_true.1 and15_all b.toNat (List.mem_range.2 b.toNat_lt))
theorem hexl_take (l:List UInt8) (k:Nat) (h:k<l.length):hexl (l.take (k+1))=hexl (l.take k)++[hexd ((l.getD k 0).toNat/16)]++[hexd ((l.getD k 0).toNat%16)]:=by
 rw [take_succ_getD l k h,hexl_append,List.append_assoc];rfl
theorem hexd_eq (k:Nat):([48,49,50,51,52,53,54,55,56,57,97,98,99,100,101,102]:List UInt8).getD k 0=hexd k:=rfl
theorem wire_hex (nl:Bool) (l:List UInt8) (hl:l.length≤1048576):APure cx 75 [.sl 1 nl (bl l) .any] (.str (hexl l)):=by
 refine pure_fnK cxOk Tryz.func75 (fun _=>false) (fun _=>none) (by kernel_rfl) (by dsimp only [Tryz.f75,go_sem,seval,liteO,Option.map,List.map];exact .mk _) ?_
 dsimp only [Tryz.f75,frame0,List.zipIdx,List.map,Nat.reduceAdd]
 try simp only [List.getElem?_toArray,List.getElem?_cons_succ,List.getElem?_cons_zero,Option.bind_some]
 repeat' (first|refine aC_seq ?_|refine aC_reg rfl ?_|refine aC_block ?_|refine aC_loop ?_|refine thenQ_normal ?_|refine aL_nil ?_|(apply aL_step;(·exact True.intro);(iterate 2 (·simp (disch:=omega) only [go_sem,seval]<;>with_reducible rfl));(·simp only [go_sem]<;>with_reducible rfl))|fail)
 ·refine loop_rule (cxOk.wp _ _) (σ:=Nat) (fun k=>[(8,.int .i64 k),(7,.int .i64 l.length),(6,.sl 1 nl (bl l) .any),(3,.ptr 0 0)])
   (fun k=>[bld 0 1 (if k=0 then .nilp else .ptr 0 0) (hexl (l.take k)),.grow (hexl (l.take k)).length 1 5]) (fun k=>l.length-k) (fun k=>k≤l.length)
   0 (GStep.own 0 5 rfl) ⟨Nat.zero_le _,Sub.of_all (by simp [Fr.get]),rfl⟩ ?_
  intro k hk
  have htl:(hexl (l.take k)).length=2*k:=by rw [hexl_length,List.length_take];omega
  have hp:(if k=0 then AVal.nilp else .ptr 0 0) = .nilp∨(if k=0 then AVal.nilp else .ptr 0 0) = .ptr 0 0:=by split<;>simp
  by_cases hlt:k<l.length
  ·have ht:=hexl_take l k hlt
   have hb:=u8_lt (l.getD k 0)
   have ha:=and15 (l.getD k 0)
   have hgd:=getD_bl l k .any hlt
   generalize l.getD k 0=b at *
   have hf:Int.fdiv (b.toNat:Int) (2 ^ 4)=((b.toNat/16:Nat):Int):=by rw [Int.fdiv_eq_ediv_of_nonneg _ (by decide)];omega
   have hf2:Int.fdiv (b.toNat:Int) 16=((b.toNat/16:Nat):Int):=hf
   have hq1:b.toNat/16<16:=by omega
   have hq2:b.toNat%16<16:=by omega
   generalize hexl (l.take k)=bs at *
   generalize b.toNat/16=q at *
   generalize b.toNat%16=r at *
   generalize (if k=0 then AVal.nilp else .ptr 0 0)=p at *
   have w1:=write_byte (S:=[bld 0 1 p bs,.grow bs.length 1 5]) (i:=0) (g:=1) (c:=hexd q) hp rfl rfl (by omega)
   have w2:=write_byte (S:=[bld 0 1 (.ptr 0 0) (bs++[hexd q]),.grow (bs++[hexd q]).length 1 5]) (i:=0) (g:=1) (c:=hexd r) (.inr rfl) rfl rfl (by simp;omega)
   rw [← ht] at w2
   have hn:(bs++[hexd q]).length+1=(hexl (l.take (k+1))).length:=by rw [ht];simp
   rw [hn] at w2
   have hn1:bs.length+1=(bs++[hexd q]).length:=by simp
   rw [hn1] at w1
   generalize bs++[hexd q]=bs1 at *
   generalize hZ:hexl (l.take (k+1))=bs2 at *
   clear ht hn hn1
   simp only [List.set_cons_zero,List.set_cons_succ] at w1 w2
   have hx1:=hexd_eq q
   have hx2:=hexd_eq r
   generalize hexd q=x1 at *
   generalize hexd r=x2 at *
   repeat' (first|refine aC_seq ?_|refine aC_reg rfl ?_|refine aC_block ?_|refine aC_skip ?_|refine thenQ_normal ?_|refine blockQ_normal ?_|refine aL_nil ?_|(apply aL_step;(·exact True.intro);(iterate 2 (·simp (disch:=omega) only [go_sem,seval,hgd,ha,hf,hf2,hx1,hx2,Int.toNat_natCast]<;>with_reducible rfl));(·simp only [go_sem]<;>with_reducible rfl))|(refine aC_condP (by simp (disch:=omega) only [go_sem,seval,hgd,ha,hf,hf2,hx1,hx2,Int.toNat_natCast]<;>with_reducible rfl) ?_ ?_<;>(intro h;first|(exfalso;omega)|skip))|(apply aL_aK (w1);(·rfl);(iterate 2 (·simp (disch:=omega) only [go_sem,seval,hgd,ha,hf,hf2,hx1,hx2,Int.toNat_natCast]<;>with_reducible rfl));(·simp only [go_sem]<;>with_reducible rfl))|(apply aL_aK (w2);(·rfl);(iterate 2 (·simp (disch:=omega) only [go_sem,seval,hgd,ha,hf,hf2,hx1,hx2,Int.toNat_natCast]<;>with_reducible rfl));(·simp only [go_sem]<;>with_reducible rfl))|fail)
   all_goals try (first|exact True.intro|exact not_false|omega|(simp (disch:=omega) only [go_sem,seval]<;>omega))
   all_goals exact ⟨k+1,by omega,Sub.of_all (by simp [Fr.get]),by simp [hZ],by omega⟩
  ·have hk':k=l.length:=by omega
   subst hk'
   rw [List.take_length]
   generalize (if l.length=0 then AVal.nilp else .ptr 0 0)=p at *
   have hs:=bld_string bldOk (S:=[bld 0 1 p (hexl l),.grow (hexl l).length 1 5]) (i:=0) (g:=1) (p:=p) (bs:=hexl l) rfl rfl
   repeat' (first|refine aC_seq ?_|refine aC_reg rfl ?_|refine aC_exit ?_|refine aC_ret ?_|refine thenQ_normal ?_|refine thenQ_exit ?_|refine blockQ_hit ?_|refine aL_nil ?_|(apply aL_step;(·exact True.intro);(iterate 2 (·simp (disch:=omega) only [go_sem,seval]<;>with_reducible rfl));(·simp only [go_sem]<;>with_reducible rfl))|(refine aC_condP (by simp (disch:=omega) only [go_sem,seval]<;>with_reducible rfl) ?_ ?_<;>(intro h;first|(exfalso;omega)|skip))|(apply aL_aK (hs);(·rfl);(iterate 2 (·simp (disch:=omega) only [go_sem,seval]<;>with_reducible rfl));(·simp only [go_sem]<;>with_reducible rfl))|fail)
   all_goals try (first|exact True.intro|exact not_false|omega|(simp (disch:=omega) only [go_sem,seval]<;>omega))
   all_goals try (simp (disch:=omega) only [go_sem,seval])
   all_goals try simp
 all_goals first|trivial|omega
end Go.Am
end
section
namespace Go.Am
open Go Go.Proofs
set_option maxHeartbeats 4000000
set_option maxRecDepth 100000
attribute [local irreducible] aC aL thenQ blockQ scopeQ ALoop AWp
theorem write_string {S:St} {i g:Nat} {p:AVal} {bs s:List UInt8} (hp:p = .nilp∨p = .ptr i 0) (hS:S[i]? = some (bld i g p bs)) (hg:S[g]? = some (.grow bs.length 1 5)) (hl:bs.length+s.length≤1000000000000) :
  ACall cx 49 [.ptr i 0,.str s] S (.tup [.int .i64 s.length,.nilifc]) ((S.set i (bld i g (.ptr i 0) (bs++s))).set g (.grow (bs.length+s.length) 1 5)):=by
 have hne:i≠g:=by
  rintro rfl
  rw [hS] at hg;cases hg
 have hi:i<S.length:=(List.getElem?_eq_some_iff.1 hS).1
 obtain ⟨S1,hS1⟩ : ∃ T:St,T=S.set i (bld i g (.ptr i 0) bs):=⟨_,rfl⟩
 have hc:ACall cx 93 [.ptr i 0] S (.tup []) S1:=by
  rw [hS1]
  exact bld_check bldOk hp hS
 have a1:S1[i]? = some (.cells [.ptr i 0,.sl 1 bs.isEmpty (bl bs) (.own g)] 103):=by rw [hS1,List.getElem?_set_self hi];rfl
 have a2:S1[g]? = some (.grow bs.length 1 5):=by rw [hS1,List.getElem?_set_ne hne];exact hg
 have a3:∀ x,(S1.set g x)[i]? = some (.cells [.ptr i 0,.sl 1 bs.isEmpty (bl bs) (.own g)] 103):=fun x=>by rw [List.getElem?_set_ne (Ne.symm hne)];exact a1
 have hfin:(S.set i (bld i g (.ptr i 0) (bs++s))).set g (.grow (bs.length+s.length) 1 5)=(S1.set g (.grow (bs.length+s.length) 1 5)).set i (.cells [.ptr i 0,.sl 1 (bs.isEmpty&&(bl s).isEmpty) (bl bs++bl s) (.own g)] 103):=by
  have hA:bld i g (.ptr i 0) (bs++s) = .cells [.ptr i 0,.sl 1 (bs.isEmpty&&(bl s).isEmpty) (bl bs++bl s) (.own g)] 103:=by
   unfold bld
   cases bs<;>simp [bl]
  rw [hA,hS1]
  exact set_turn S hne _ _ _
 rw [hfin]
 clear hfin
 refine acall_fnK cxOk Tryz.func49 (fun _=>false) (fun _=>none) (by kernel_rfl) (by dsimp only [Tryz.f49,go_sem,seval,liteO,Option.map,List.map];exact .mk _) ?_
 dsimp only [Tryz.f49,frame0,List.zipIdx,List.map,Nat.reduceAdd]
 try simp only [List.getElem?_toArray,List.getElem?_cons_succ,List.getElem?_cons_zero,Option.bind_some]
 repeat' (first|refine aC_seq ?_|refine aC_reg rfl ?_|refine aC_ret ?_|refine thenQ_normal ?_|refine aL_nil ?_|(apply aL_step;(·exact True.intro);(iterate 2 (·simp (disch:=omega) only [go_sem,seval,a1,a2,a3]<;>with_reducible rfl));(·simp only [go_sem]<;>with_reducible rfl))|(apply aL_aK (hc);(·rfl);(iterate 2 (·simp (disch:=omega) only [go_sem,seval,a1,a2,a3]<;>with_reducible rfl));(·simp only [go_sem]<;>with_reducible rfl))|fail)
 all_goals try (first|exact True.intro|exact not_false|omega|(simp (disch:=omega) only [go_sem,seval]<;>omega))
end Go.Am
end
