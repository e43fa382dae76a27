/- Lines of steps: script.Unline. -/
import Derived.Test.YtodiaabcaahnjaaGreatDoorS01
import Derived.Test.YtodiaabcaahnjaaGreatDoorP01
import Derived.Test.YtodiaabcaahnjaaGreatDoorL08
set_option linter.unusedVariables false
set_option linter.unusedSimpArgs false
section
namespace Go.Am
open Go Go.Proofs
set_option maxHeartbeats 8000000
set_option maxRecDepth 100000
section
attribute [local irreducible] aC aL thenQ blockQ scopeQ ALoop AWp
theorem hexd_all:((List.range 16).all fun k=>decide (digl (hexd k)=k)&&decide (hexd k≠32))=true:=by decide +kernel
theorem digl_hexd {k:Nat} (h:k<16):digl (hexd k)=k:=by
 have:=List.all_eq_true.1 hexd_all k (List.mem_range.2 h)
 rw [Bool.and_eq_true] at this
 exact of_decide_eq_true this.1
theorem hexd_no {k:Nat} (h:k<16):hexd k≠32:=by
 have:=List.all_eq_true.1 hexd_all k (List.mem_range.2 h)
 rw [Bool.and_eq_true] at this
 exact of_decide_eq_true this.2
theorem hexl_ok:∀ m:List UInt8,goodp (hexl m)=true∧unpre (hexl m)=m∧(32:UInt8) ∉ hexl m
 |[]=>⟨rfl,rfl,by simp [hexl]⟩
 |b::m=>by
  obtain ⟨h1,h2,h3⟩:=hexl_ok m
  have hb:=b.toNat_lt
  have ha:=digl_hexd (k:=b.toNat/16) (by omega)
  have hc:=digl_hexd (k:=b.toNat%16) (by omega)
  refine ⟨?_,?_,?_⟩
  ·simp only [hexl,goodp,ha,hc,h1,Bool.and_true,decide_eq_true_eq];omega
  ·simp only [hexl,unpre,ha,hc,h2]
   rw [show b.toNat/16*16+b.toNat%16=b.toNat by omega]
   simp
  ·simp only [hexl,List.mem_cons,not_or]
   exact ⟨Ne.symm (hexd_no (by omega)),Ne.symm (hexd_no (by omega)),h3⟩
theorem cut_hit (x y:List UInt8) (h:(32:UInt8) ∉ x):Lib.cut (x++32::y) [32]=(x,y,true):=by
 unfold Lib.cut
 rw [index_hit1 32 x y h,if_pos (by omega),Int.toNat_natCast,List.take_left]
 have:(x++32::y).drop (x.length+([32]:List UInt8).length)=y:=by
  rw [List.drop_append,List.drop_eq_nil_of_le (by simp)]
  simp
 rw [this]
theorem cut_miss (x:List UInt8) (h:(32:UInt8) ∉ x):Lib.cut x [32]=(x,[],false):=by
 unfold Lib.cut
 rw [index_miss1 32 x h,if_neg (by omega)]
theorem cut_len (s:List UInt8):(Lib.cut s [32]).1.length≤s.length∧(Lib.cut s [32]).2.1.length≤s.length:=by
 unfold Lib.cut
 split
 ·simp;omega
 ·simp
theorem a_cutB (s:List UInt8) (hs:s.length≤4294967280):APure cx 31 [.str s,.str [32]] (.tup [.str (Lib.cut s [32]).1,.str (Lib.cut s [32]).2.1,.bool (Lib.cut s [32]).2.2]) :=
 apure_shelf (vs:=[.string ⟨s.toArray⟩,.string ⟨[32].toArray⟩]) (callable_of Tryz.func31 (by kernel_rfl) (by kernel_rfl)) rfl fun w im0 hG=>by
  obtain ⟨m,hm⟩:=GL.int (E:=env0 w im0) (hG 0 _ rfl)
  have hz:(⟨s.toArray⟩ : ByteArray).size=s.length:=rfl
  refine (Tryz.strings_Cut ⟨s.toArray⟩ ⟨[32].toArray⟩ m w (by omega) hm).mono fun e w' h=>?_
  obtain ⟨rfl,n,rfl⟩:=h
  refine ⟨_,rfl,grown_drawn n,.tup _ _ rfl fun j hj=>?_⟩
  match j,hj with
  |0,_=>exact .str _ _ rfl
  |1,_=>exact .str _ _ rfl
  |2,_=>exact .bool _
def LOAD:List UInt8:=[108,111,97,100]
def STORE:List UInt8:=[115,116,111,114,101]
def Z6:List Nat:=[0,0,0,0,0,0]
def IsStep (s:List UInt8) (st:Sp):Prop:=MayS st∧st.Ok∧lineS st=s
def cand (s:List UInt8):Sp :=
 let W:=(Lib.cut s [32]).1
 let A:=(Lib.cut (Lib.cut s [32]).2.1 [32]).1
 let B:=(Lib.cut (Lib.cut s [32]).2.1 [32]).2.1
 if W=LOAD then ⟨2,0,Z6,(puP A).getD 0,0,[]⟩ else if W=STORE then ⟨3,0,Z6,(puP A).getD 0,(puP B).getD 0,[]⟩
 else if W=VERIFY then ⟨4,0,Z6,0,0,if goodp A=true then unpre A else []⟩ else Sp.zero
theorem dec_cut (a:Nat):(32:UInt8) ∉ Lib.decDigits a:=dec_no a 32 (.inl (by decide))
theorem cand_is {s:List UInt8} {st:Sp} (h:IsStep s st) (h1:st.k≠1):cand s=st:=by
 obtain ⟨hm,hok,rfl⟩:=h
 obtain ⟨k,op,xs,a,w,b⟩:=st
 have haw:=hok.aw
 have hww:=hok.ww
 simp only at haw hww
 rcases hm with hm|⟨⟨h2,h3⟩,h4⟩
 ·exact absurd hm.1 h1
 ·simp only at h2 h3
  subst h2 h3
  rcases h4 with ⟨hk,hw,hb⟩|⟨hk,hb⟩|⟨hk,ha,hw,hb⟩
  ·simp only at hk hw hb
   subst hk hw hb
   have e:lineS ⟨2,0,[0,0,0,0,0,0],a,0,[]⟩=LOAD++32::Lib.decDigits a:=by simp [lineS,numT,LOAD]
   unfold cand
   rw [e,cut_hit _ _ (by decide)]
   simp only [cut_miss _ (dec_cut a),puP_dec a haw,Option.getD_some,if_pos,Z6]
  ·simp only at hk hb
   subst hk hb
   have e:lineS ⟨3,0,[0,0,0,0,0,0],a,w,[]⟩=STORE++32::(Lib.decDigits a++32::Lib.decDigits w):=by simp [lineS,numT,STORE]
   unfold cand
   rw [e,cut_hit _ _ (by decide)]
   simp only [cut_hit _ _ (dec_cut a),puP_dec a haw,puP_dec w hww,Option.getD_some,if_pos,Z6]
   rw [if_neg (by decide)]
  ·simp only at hk ha hw
   subst hk ha hw
   by_cases hb0:b=[]
   ·subst hb0;rfl
   ·have e:lineS ⟨4,0,[0,0,0,0,0,0],0,0,b⟩=VERIFY++32::hexl b:=by simp [lineS,hb0]
    obtain ⟨g1,g2,g3⟩:=hexl_ok b
    unfold cand
    rw [e,cut_hit _ _ (by decide)]
    simp only [cut_miss _ g3,g1,g2,if_pos,Z6]
    rw [if_neg (by decide),if_neg (by decide)]
theorem cand_ok (s:List UInt8) (hs:s.length≤100000):(cand s).Ok∧(cand s).k≠1:=by
 have hl:=cut_len s
 have hl2:=cut_len (Lib.cut s [32]).2.1
 have hz:∀ x∈Z6,x<18446744073709551616:=by decide
 have hp:∀ l:List UInt8,(puP l).getD 0<18446744073709551616:=fun l=>by
  cases h:puP l with
  |none=>decide
  |some v=>exact puP_lt h
 have hu:∀ l:List UInt8,(unpre l).length≤l.length:=by
  intro l
  induction l using unpre.induct with
  |case1 a b r ih=>simp only [unpre,List.length_cons];omega
  |case2 t h=>rw [unpre.eq_def];split<;>simp_all
 unfold cand
 simp only
 split
 ·exact ⟨⟨rfl,hz,hp _,(show (0:Nat)<18446744073709551616 by decide),by simp⟩,(show (2:Int)≠1 by decide)⟩
 ·split
  ·exact ⟨⟨rfl,hz,hp _,hp _,by simp⟩,(show (3:Int)≠1 by decide)⟩
  ·split
   ·refine ⟨⟨rfl,hz,(show (0:Nat)<18446744073709551616 by decide),(show (0:Nat)<18446744073709551616 by decide),?_⟩,(show (4:Int)≠1 by decide)⟩
    simp only
    split
    ·have:=hu (Lib.cut (Lib.cut s [32]).2.1 [32]).1;omega
    ·simp
   ·exact ⟨⟨rfl,by decide,by decide,by decide,by simp [Sp.zero]⟩,by decide⟩
theorem step_call {s:List UInt8} {st:Sp} (h:IsStep s st) (h1:st.k=1):IsCall s st.op st.xs∧st=⟨1,st.op,st.xs,0,0,[]⟩:=by
 obtain ⟨hm,hok,hl⟩:=h
 obtain ⟨k,op,xs,a,w,b⟩:=st
 simp only at h1
 subst h1
 rcases hm with ⟨_,hc,ha,hw,hb⟩|⟨_,hm⟩
 ·simp only at ha hw hb
  subst ha hw hb
  exact ⟨⟨hc,hok.x6,hok.xw,hl⟩,rfl⟩
 ·simp only at hm
  omega
theorem call_step {s:List UInt8} {op:Int} {xs:List Nat} (h:IsCall s op xs):IsStep s ⟨1,op,xs,0,0,[]⟩ :=
 ⟨.inl ⟨rfl,h.1,rfl,rfl,rfl⟩,⟨h.2.1,h.2.2.1,(show (0:Nat)<18446744073709551616 by decide),(show (0:Nat)<18446744073709551616 by decide),by simp⟩,h.2.2.2⟩
end
end Go.Am
end
section
namespace Go.Am
open Go Go.Proofs
set_option maxHeartbeats 8000000
set_option maxRecDepth 100000
section
attribute [local irreducible] aC aL thenQ blockQ scopeQ ALoop AWp
theorem ne_SL:(([115,116,111,114,101]:List UInt8)=[108,111,97,100])=False:=by decide
theorem ne_VL:(([118,101,114,105,102,121]:List UInt8)=[108,111,97,100])=False:=by decide
theorem ne_VS:(([118,101,114,105,102,121]:List UInt8)=[115,116,111,114,101])=False:=by decide
theorem nz:((0:Nat):Int)=0:=rfl
theorem unline_cand (s:List UInt8) (hs:s.length≤100000) (hno:∀ op xs,¬ IsCall s op xs) :
  APure cx 9 [.str s] (if MayS (cand s)∧lineS (cand s)=s then .tup [.agg (spC (cand s) (cand s).b.isEmpty .any),.int .i64 0] else .tup [.agg (spC Sp.zero true .any),.int .i64 4]):=by
 have hu:=call_Untext s (by omega) _ (.inr ⟨hno,rfl⟩)
 have hl:=cut_len s
 have hl2:=cut_len (Lib.cut s [32]).2.1
 have c1:=a_cutB s (by omega)
 have c2:=a_cutB (Lib.cut s [32]).2.1 (by omega)
 have n1:=script_number (Lib.cut (Lib.cut s [32]).2.1 [32]).1 (by omega)
 have n2:=script_number (Lib.cut (Lib.cut s [32]).2.1 [32]).2.1 (by omega)
 have ux:=wire_unhex (Lib.cut (Lib.cut s [32]).2.1 [32]).1 (by omega)
 obtain ⟨hok,hk1⟩:=cand_ok s hs
 have hms:=script_MayStep (cand s) hok.x6 (cand s).b.isEmpty
 have hln:=script_line (cand s) hok (fun h=>absurd h hk1) (cand s).b.isEmpty
 have hz:spC Sp.zero true .any=[.int .i64 0,.int .i64 0,.int .u64 0,.int .u64 0,.int .u64 0,.int .u64 0,.int .u64 0,.int .u64 0,.int .u64 0,.int .u64 0,.sl 1 true [] .any]:=rfl
 rw [hz]
 clear hz hok hk1 hno
 generalize hX:lineS (cand s)=X at *
 have hif:(if MayS (cand s)∧X=s then AVal.tup [.agg (spC (cand s) (cand s).b.isEmpty .any),.int .i64 0] else .tup [.agg [.int .i64 0,.int .i64 0,.int .u64 0,.int .u64 0,.int .u64 0,.int .u64 0,.int .u64 0,.int .u64 0,.int .u64 0,.int .u64 0,.sl 1 true [] .any],.int .i64 4]) =
   (if decide (MayS (cand s))=true then (if X=s then AVal.tup [.agg (spC (cand s) (cand s).b.isEmpty .any),.int .i64 0] else .tup [.agg [.int .i64 0,.int .i64 0,.int .u64 0,.int .u64 0,.int .u64 0,.int .u64 0,.int .u64 0,.int .u64 0,.int .u64 0,.int .u64 0,.sl 1 true [] .any],.int .i64 4]) else .tup [.agg [.int .i64 0,.int .i64 0,.int .u64 0,.int .u64 0,.int .u64 0,.int .u64 0,.int .u64 0,.int .u64 0,.int .u64 0,.int .u64 0,.sl 1 true [] .any],.int .i64 4]):=by
  by_cases h1:MayS (cand s)<;>by_cases h2:X=s<;>simp [h1,h2]
 rw [hif]
 clear hif hX
 generalize decide (MayS (cand s))=m at *
 unfold cand at *
 simp only at *
 generalize (Lib.cut s [32]).1=W at *
 generalize (Lib.cut s [32]).2.2=f1 at *
 generalize (Lib.cut s [32]).2.1=R at *
 generalize (Lib.cut R [32]).1=A at *
 generalize (Lib.cut R [32]).2.2=f2 at *
 generalize (Lib.cut R [32]).2.1=B at *
 generalize (puP A).getD 0=a at *
 generalize (puP B).getD 0=b at *
 clear hl hl2
 have hw:W=LOAD∨(W≠LOAD∧W=STORE)∨(W≠LOAD∧W≠STORE∧W=VERIFY∧goodp A=true)∨(W≠LOAD∧W≠STORE∧W=VERIFY∧¬ goodp A=true)∨(W≠LOAD∧W≠STORE∧W≠VERIFY):=by
  by_cases w1:W=LOAD
  ·exact .inl w1
  ·by_cases w2:W=STORE
   ·exact .inr (.inl ⟨w1,w2⟩)
   ·by_cases w3:W=VERIFY
    ·by_cases hg:goodp A=true
     ·exact .inr (.inr (.inl ⟨w1,w2,w3,hg⟩))
     ·exact .inr (.inr (.inr (.inl ⟨w1,w2,w3,hg⟩)))
    ·exact .inr (.inr (.inr (.inr ⟨w1,w2,w3⟩)))
 rcases hw with w1|⟨w1,w2⟩|⟨w1,w2,w3,hg⟩|⟨w1,w2,w3,hg⟩|⟨w1,w2,w3⟩
 case' inl =>
  rw [if_pos w1] at hms hln ⊢
  subst w1
  simp only [spC_six,bl_nil,nz,Z6,List.isEmpty_nil] at hms hln ⊢
  clear ux n2
 case' inr.inl =>
  rw [if_neg w1,if_pos w2] at hms hln ⊢
  subst w2
  simp only [spC_six,bl_nil,nz,Z6,List.isEmpty_nil] at hms hln ⊢
  clear ux
 case' inr.inr.inl =>
  rw [if_neg w1,if_neg w2,if_pos w3] at hms hln ⊢
  subst w3
  simp only [hg,if_true,spC_six,bl_nil,nz,Z6] at ux hms hln ⊢
  clear n1 n2
  generalize unpre A=u at *
 case' inr.inr.inr.inl =>
  rw [if_neg w1,if_neg w2,if_pos w3] at hms hln ⊢
  subst w3
  simp only [hg,Bool.false_eq_true,if_false,spC_six,bl_nil,nz,Z6,List.isEmpty_nil] at ux hms hln ⊢
  clear n1 n2
 case' inr.inr.inr.inr =>
  rw [if_neg w1,if_neg w2,if_neg w3] at hms hln ⊢
  simp only [Sp.zero,spC_six,bl_nil,nz,List.isEmpty_nil] at hms hln ⊢
  clear ux n1 n2
 all_goals cases m
 all_goals try unfold LOAD at *
 all_goals try unfold STORE at *
 all_goals try unfold VERIFY at *
 all_goals by_cases hXs:X=s
 all_goals simp only [hXs,if_true,if_false,Bool.false_eq_true]
 all_goals
 refine pure_fnK cxOk Tryz.func9 (fun _=>false) (fe9.q) (by kernel_rfl) (by dsimp only [Tryz.f9,go_sem,seval,liteO,Option.map,List.map];exact .mk _) ?_
 dsimp only [Tryz.f9,frame0,List.zipIdx,List.map,Nat.reduceAdd]
 try simp only [List.getElem?_toArray,List.getElem?_cons_succ,List.getElem?_cons_zero,Option.bind_some]
 repeat' (first|refine aC_seq ?_|refine aC_reg rfl ?_|refine aC_block ?_|refine aC_skip ?_|refine aC_ret ?_|refine thenQ_normal ?_|refine blockQ_normal ?_|refine thenQ_ret ?_|refine aL_nil ?_|(apply aL_step;(·exact True.intro);(iterate 2 (·simp (disch:=omega) only [go_sem,seval,ne_SL,ne_VL,ne_VS,hXs,eq_self_iff_true,decide_true,decide_false,not_true_eq_false,not_false_eq_true]<;>with_reducible rfl));(·simp only [go_sem]<;>with_reducible rfl))|(refine aL_skip ?_ (by simp only [go_sem]<;>with_reducible rfl) ?_;(·simp (disch:=omega) only [go_sem,seval,ne_SL,ne_VL,ne_VS,hXs,eq_self_iff_true,decide_true,decide_false,not_true_eq_false,not_false_eq_true]))|(refine aC_condT ?_ ?_;(·simp (disch:=omega) only [go_sem,seval,ne_SL,ne_VL,ne_VS,hXs,eq_self_iff_true,decide_true,decide_false,not_true_eq_false,not_false_eq_true]))|(refine aC_condF ?_ ?_;(·simp (disch:=omega) only [go_sem,seval,ne_SL,ne_VL,ne_VS,hXs,eq_self_iff_true,decide_true,decide_false,not_true_eq_false,not_false_eq_true]))|(refine aC_condP (by simp (disch:=omega) only [go_sem,seval,ne_SL,ne_VL,ne_VS,hXs,eq_self_iff_true,decide_true,decide_false,not_true_eq_false,not_false_eq_true]<;>with_reducible rfl) ?_ ?_<;>(intro h;first|(exfalso;omega)|skip))|(apply aL_pK cxG (hu);(iterate 2 (·simp (disch:=omega) only [go_sem,seval,ne_SL,ne_VL,ne_VS,hXs,eq_self_iff_true,decide_true,decide_false,not_true_eq_false,not_false_eq_true]<;>with_reducible rfl));(·simp only [go_sem]<;>with_reducible rfl);(·simp))|(apply aL_pK cxG (c1);(iterate 2 (·simp (disch:=omega) only [go_sem,seval,ne_SL,ne_VL,ne_VS,hXs,eq_self_iff_true,decide_true,decide_false,not_true_eq_false,not_false_eq_true]<;>with_reducible rfl));(·simp only [go_sem]<;>with_reducible rfl);(·simp))|(apply aL_pK cxG (c2);(iterate 2 (·simp (disch:=omega) only [go_sem,seval,ne_SL,ne_VL,ne_VS,hXs,eq_self_iff_true,decide_true,decide_false,not_true_eq_false,not_false_eq_true]<;>with_reducible rfl));(·simp only [go_sem]<;>with_reducible rfl);(·simp))|(apply aL_pK cxG (n1);(iterate 2 (·simp (disch:=omega) only [go_sem,seval,ne_SL,ne_VL,ne_VS,hXs,eq_self_iff_true,decide_true,decide_false,not_true_eq_false,not_false_eq_true]<;>with_reducible rfl));(·simp only [go_sem]<;>with_reducible rfl);(·simp))|(apply aL_pK cxG (n2);(iterate 2 (·simp (disch:=omega) only [go_sem,seval,ne_SL,ne_VL,ne_VS,hXs,eq_self_iff_true,decide_true,decide_false,not_true_eq_false,not_false_eq_true]<;>with_reducible rfl));(·simp only [go_sem]<;>with_reducible rfl);(·simp))|(apply aL_pK cxG (ux);(iterate 2 (·simp (disch:=omega) only [go_sem,seval,ne_SL,ne_VL,ne_VS,hXs,eq_self_iff_true,decide_true,decide_false,not_true_eq_false,not_false_eq_true]<;>with_reducible rfl));(·simp only [go_sem]<;>with_reducible rfl);(·simp))|(apply aL_pK cxG (hms);(iterate 2 (·simp (disch:=omega) only [go_sem,seval,ne_SL,ne_VL,ne_VS,hXs,eq_self_iff_true,decide_true,decide_false,not_true_eq_false,not_false_eq_true]<;>with_reducible rfl));(·simp only [go_sem]<;>with_reducible rfl);(·simp))|(apply aL_pK cxG (hln);(iterate 2 (·simp (disch:=omega) only [go_sem,seval,ne_SL,ne_VL,ne_VS,hXs,eq_self_iff_true,decide_true,decide_false,not_true_eq_false,not_false_eq_true]<;>with_reducible rfl));(·simp only [go_sem]<;>with_reducible rfl);(·simp))|fail)
 all_goals try (first|exact True.intro|exact not_false|omega|(simp (disch:=omega) only [go_sem,seval]<;>omega))
 all_goals clear hu c1 c2 hms hln
 all_goals try (simp (disch:=omega) only [go_sem,seval])
 all_goals try simp
 all_goals try (exfalso;first|exact w1 (by assumption)|exact w2 (by assumption)|exact w3 (by assumption))
end
end Go.Am
end
section
namespace Go.Am
open Go Go.Proofs
set_option maxHeartbeats 8000000
set_option maxRecDepth 100000
section
attribute [local irreducible] aC aL thenQ blockQ scopeQ ALoop AWp
theorem cnm_ne {op:Int} (h:1≤op∧op≤21):cnm op≠LOAD∧cnm op≠STORE∧cnm op≠VERIFY:=by
 obtain ⟨k,rfl⟩:=Int.eq_ofNat_of_zero_le (show 0≤op by omega)
 have hall:((List.range 22).all fun k=>decide (cnm (k:Nat)≠LOAD)&&decide (cnm (k:Nat)≠STORE)&&decide (cnm (k:Nat)≠VERIFY))=true:=by decide +kernel
 have:=List.all_eq_true.1 hall k (List.mem_range.2 (by omega))
 simp only [Bool.and_eq_true,decide_eq_true_eq] at this
 exact ⟨this.1.1,this.1.2,this.2⟩
theorem step_nocall {s:List UInt8} {st:Sp} (h:IsStep s st) (h1:st.k≠1):∀ op xs,¬ IsCall s op xs:=by
 intro op xs hc
 have hp:=call_parts hc
 obtain ⟨n1,n2,n3⟩:=cnm_ne hc.1.1
 obtain ⟨hm,hok,rfl⟩:=h
 obtain ⟨k,op',xs',a,w,b⟩:=st
 rcases hm with hm|⟨_,h4⟩
 ·exact h1 hm.1
 ·simp only at h4
  rcases h4 with ⟨rfl,_,_⟩|⟨rfl,_⟩|⟨rfl,_,_,_⟩
  ·have e:lineS ⟨2,op',xs',a,w,b⟩=LOAD++32::Lib.decDigits a:=by simp [lineS,numT,LOAD]
   rw [e,parts_hit 32 _ _ (by decide)] at hp
   exact n1 (List.cons.inj hp).1.symm
  ·have e:lineS ⟨3,op',xs',a,w,b⟩=STORE++32::(Lib.decDigits a++32::Lib.decDigits w):=by simp [lineS,numT,STORE]
   rw [e,parts_hit 32 _ _ (by decide)] at hp
   exact n2 (List.cons.inj hp).1.symm
  ·by_cases hb0:b=[]
   ·subst hb0
    have e:lineS ⟨4,op',xs',a,w,[]⟩=VERIFY:=by simp [lineS]
    rw [e,parts_miss 32 _ (by decide)] at hp
    exact n3 (List.cons.inj hp).1.symm
   ·have e:lineS ⟨4,op',xs',a,w,b⟩=VERIFY++32::hexl b:=by simp [lineS,hb0]
    rw [e,parts_hit 32 _ _ (by decide)] at hp
    exact n3 (List.cons.inj hp).1.symm
theorem unline_call (s:List UInt8) (hs:s.length≤100000) (op:Int) (xs:List Nat) (h:IsCall s op xs) :
  APure cx 9 [.str s] (.tup [.agg (spC ⟨1,op,xs,0,0,[]⟩ true .any),.int .i64 0]):=by
 have hu:=call_Untext s (by omega) _ (.inl ⟨op,xs,h,rfl⟩)
 obtain ⟨x0,x1,x2,x3,x4,x5,rfl⟩:=six h.2.1
 simp only [spC_six,wl_six,bl_nil,nz] at *
 clear h
 refine pure_fnK cxOk Tryz.func9 (fun _=>false) (fe9.q) (by kernel_rfl) (by dsimp only [Tryz.f9,go_sem,seval,liteO,Option.map,List.map];exact .mk _) ?_
 dsimp only [Tryz.f9,frame0,List.zipIdx,List.map,Nat.reduceAdd]
 try simp only [List.getElem?_toArray,List.getElem?_cons_succ,List.getElem?_cons_zero,Option.bind_some]
 repeat' (first|refine aC_seq ?_|refine aC_reg rfl ?_|refine aC_ret ?_|refine thenQ_normal ?_|refine thenQ_ret ?_|refine aL_nil ?_|(apply aL_step;(·exact True.intro);(iterate 2 (·simp (disch:=omega) only [go_sem,seval]<;>with_reducible rfl));(·simp only [go_sem]<;>with_reducible rfl))|(refine aC_condT ?_ ?_;(·simp (disch:=omega) only [go_sem,seval]))|(apply aL_pK cxG (hu);(iterate 2 (·simp (disch:=omega) only [go_sem,seval]<;>with_reducible rfl));(·simp only [go_sem]<;>with_reducible rfl);(·simp))|fail)
 all_goals try (first|exact True.intro|exact not_false|omega|(simp (disch:=omega) only [go_sem,seval]<;>omega))
 all_goals clear hu
 all_goals try (simp (disch:=omega) only [go_sem,seval])
 all_goals try simp
theorem script_Unline (s:List UInt8) (hs:s.length≤100000) (r:AVal) (hr:(∃ st,IsStep s st∧r = .tup [.agg (spC st st.b.isEmpty .any),.int .i64 0]) ∨
  ((∀ st,¬ IsStep s st)∧r = .tup [.agg (spC Sp.zero true .any),.int .i64 4])):APure cx 9 [.str s] r:=by
 rcases hr with ⟨st,h,rfl⟩|⟨h,rfl⟩
 ·by_cases h1:st.k=1
  ·obtain ⟨hc,he⟩:=step_call h h1
   have:=unline_call s hs _ _ hc
   rw [← he] at this
   have hb:st.b=[]:=by rw [he]
   rw [hb]
   exact this
  ·have hn:=step_nocall h h1
   have hcd:=cand_is h h1
   have:=unline_cand s hs hn
   rw [hcd,if_pos ⟨h.1,h.2.2⟩] at this
   exact this
 ·have hn:∀ op xs,¬ IsCall s op xs:=fun op xs hc=>h _ (call_step hc)
  have:=unline_cand s hs hn
  rw [if_neg fun q=>h (cand s) ⟨q.1,(cand_ok s hs).1,q.2⟩] at this
  exact this
end
end Go.Am
end
