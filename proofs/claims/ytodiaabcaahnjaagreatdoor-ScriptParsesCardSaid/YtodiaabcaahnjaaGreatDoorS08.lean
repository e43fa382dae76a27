/- Lines of steps: the document's Unline. -/
import Derived.Test.YtodiaabcaahnjaaGreatDoorS05
import Derived.Test.YtodiaabcaahnjaaGreatDoorL10
set_option linter.unusedVariables false
set_option linter.unusedSimpArgs false
namespace Go.Am
open Go Go.Proofs
set_option maxHeartbeats 8000000
set_option maxRecDepth 100000
section
attribute [local irreducible] aC aL thenQ blockQ scopeQ ALoop AWp
theorem ref_SameStep (s t:Sp) (hs:s.xs.length=6) (ht:t.xs.length=6) (hsb:s.b.length≤1048576) (htb:t.b.length≤1048576) (n1 n2:Bool) :
  APure cx 11 [.agg (spC s n1 .any),.agg (spC t n2 .any)] (.bool (decide (s=t))):=by
 obtain ⟨k,op,xs,a,w,b⟩:=s
 obtain ⟨k',op',xs',a',w',b'⟩:=t
 obtain ⟨x0,x1,x2,x3,x4,x5,rfl⟩:=six hs
 obtain ⟨y0,y1,y2,y3,y4,y5,rfl⟩:=six ht
 rw [spC_six,spC_six]
 have hsm:=ref_same n1 n2 b b' hsb htb
 refine pure_fnK cxOk Tryz.func11 (fun _=>false) (fun _=>none) (by kernel_rfl) (by dsimp only [Tryz.f11,go_sem,seval,liteO,Option.map,List.map];exact .mk _) ?_
 dsimp only [Tryz.f11,frame0,List.zipIdx,List.map,Nat.reduceAdd]
 try simp only [List.getElem?_toArray,List.getElem?_cons_succ,List.getElem?_cons_zero,Option.bind_some]
 repeat' (first|refine aC_seq ?_|refine aC_reg rfl ?_|refine aC_ret ?_|refine thenQ_normal ?_|refine aL_nil ?_|(apply aL_step;(·exact True.intro);(iterate 2 (·simp (disch:=omega) only [go_sem,seval]<;>with_reducible rfl));(·simp only [go_sem]<;>with_reducible rfl))|(refine aL_skip ?_ (by simp only [go_sem]<;>with_reducible rfl) ?_;(·simp (disch:=omega) only [go_sem,seval]))|(apply aL_guardP;(·simp (disch:=omega) only [go_sem,seval]<;>with_reducible rfl);all_goals (intro h;first|(exfalso;omega)|(simp only [h,decide_true,decide_false,not_true,not_false_iff])))|(apply aL_pK cxG (hsm);(iterate 2 (·simp (disch:=omega) only [go_sem,seval]<;>with_reducible rfl));(·simp only [go_sem]<;>with_reducible rfl);(·simp))|fail)
 all_goals try (first|exact True.intro|exact not_false|omega|(simp (disch:=omega) only [go_sem,seval]<;>omega))
 all_goals clear hsm
 all_goals try (simp (disch:=omega) only [go_sem,seval])
 all_goals try simp
 all_goals try (exact ⟨by kernel_rfl,by kernel_rfl⟩)
 all_goals clear hs ht hsb htb
 all_goals simp_all [Int.ofNat_inj]
def rc2 (p1:List UInt8):Sp:=⟨2,0,Z6,rnum (p1.take 20),0,[]⟩
def rc3 (p1 p2:List UInt8):Sp:=⟨3,0,Z6,rnum (p1.take 20),rnum (p2.take 20),[]⟩
def rc4 (p1:List UInt8):Sp:=⟨4,0,Z6,0,0,unpre p1⟩
def pt (s:List UInt8) (k:Nat):List UInt8:=(parts s [32]++[[],[]]).getD k []
theorem step_unique {s:List UInt8} {st st':Sp} (h:IsStep s st) (h':IsStep s st') (h1:st.k≠1) (h1':st'.k≠1):st=st':=(cand_is h h1).symm.trans (cand_is h' h1')
theorem dec20 (u:Nat) (h:u<18446744073709551616):rnum ((Lib.decDigits u).take 20)=u:=by
 rw [List.take_of_length_le (dec_len u h),rnum_dec u h]
theorem ref_cand {s:List UInt8} {st:Sp} (h:IsStep s st) (h1:st.k≠1):st=rc2 (pt s 1)∨st=rc3 (pt s 1) (pt s 2)∨(goodp (pt s 1)=true∧st=rc4 (pt s 1)):=by
 obtain ⟨hm,hok,rfl⟩:=h
 obtain ⟨k,op,xs,a,w,b⟩:=st
 have haw:=hok.aw
 have hww:=hok.ww
 simp only at haw hww
 rcases hm with hm|⟨⟨h2,h3⟩,h4⟩
 ·exact absurd hm.1 h1
 ·simp only at h2 h3
  subst h2 h3
  rcases h4 with ⟨hk,hw,hb⟩|⟨hk,hb⟩|⟨hk,ha,hw,hb⟩
  ·simp only at hk hw hb
   subst hk hw hb
   have e:lineS ⟨2,0,[0,0,0,0,0,0],a,0,[]⟩=LOAD++32::Lib.decDigits a:=by simp [lineS,numT,LOAD]
   left
   unfold pt rc2
   rw [e,parts_hit 32 _ _ (by decide),parts_miss 32 _ (dec_cut a)]
   simp [Z6,dec20 a haw]
  ·simp only at hk hb
   subst hk hb
   have e:lineS ⟨3,0,[0,0,0,0,0,0],a,w,[]⟩=STORE++32::(Lib.decDigits a++32::Lib.decDigits w):=by simp [lineS,numT,STORE]
   right;left
   unfold pt rc3
   rw [e,parts_hit 32 _ _ (by decide),parts_hit 32 _ _ (dec_cut a),parts_miss 32 _ (dec_cut w)]
   simp [Z6,dec20 a haw,dec20 w hww]
  ·simp only at hk ha hw
   subst hk ha hw
   right;right
   by_cases hb0:b=[]
   ·subst hb0;exact ⟨rfl,rfl⟩
   ·have e:lineS ⟨4,0,[0,0,0,0,0,0],0,0,b⟩=VERIFY++32::hexl b:=by simp [lineS,hb0]
    obtain ⟨g1,g2,g3⟩:=hexl_ok b
    have e1:pt (lineS ⟨4,0,[0,0,0,0,0,0],0,0,b⟩) 1=hexl b:=by
     unfold pt
     rw [e,parts_hit 32 _ _ (by decide),parts_miss 32 _ g3]
     simp
    rw [e1]
    exact ⟨g1,by unfold rc4;rw [g2];rfl⟩
theorem pt_len (s:List UInt8) (k:Nat):(pt s k).length≤s.length:=by
 unfold pt
 by_cases hk:k<(parts s [32]).length
 ·have e:(parts s [32]++[[],[]]:List (List UInt8)).getD k []=(parts s [32])[k]:=by simp [List.getD,List.getElem?_append,hk]
  rw [e]
  exact parts_sizes s [32] _ (List.getElem_mem hk)
 ·have e:(parts s [32]++[[],[]]:List (List UInt8)).getD k []=[]:=by
   simp only [List.getD,List.getElem?_append,if_neg hk]
   rcases h:k-(parts s [32]).length with _|_|n<;>simp
  rw [e]
  simp
theorem unpre_le (l:List UInt8):(unpre l).length≤l.length:=by
 induction l using unpre.induct with
 |case1 a b r ih=>simp only [unpre,List.length_cons];omega
 |case2 t h=>rw [unpre.eq_def];split<;>simp_all
theorem rc_ok (s:List UInt8) (hs:s.length≤100000):(rc2 (pt s 1)).Ok∧(rc3 (pt s 1) (pt s 2)).Ok∧(rc4 (pt s 1)).Ok:=by
 have hz:∀ x∈Z6,x<18446744073709551616:=by decide
 have h0:=(show (0:Nat)<18446744073709551616 by decide)
 have:=unpre_le (pt s 1)
 have:=pt_len s 1
 exact ⟨⟨rfl,hz,rnum_lt _,h0,by simp [rc2]⟩,⟨rfl,hz,rnum_lt _,rnum_lt _,by simp [rc3]⟩,⟨rfl,hz,h0,h0,by simp only [rc4];omega⟩⟩
end
end Go.Am
