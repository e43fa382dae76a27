/- Texts of lines; strings.Cut at their ends. -/
import Derived.Test.YtodiaabcaahnjaaGreatDoorS05
import Derived.Test.YtodiaabcaahnjaaGreatDoorS36
set_option linter.unusedVariables false
set_option linter.unusedSimpArgs false
section
namespace Go.Am
open Go Go.Proofs
set_option maxHeartbeats 8000000
set_option maxRecDepth 100000
def jn (L:List (List UInt8)) (rest:List UInt8):List UInt8:=(L.flatMap fun x=>x++[10])++rest
theorem jn_nil (rest:List UInt8):jn [] rest=rest:=rfl
theorem jn_cons (x:List UInt8) (L:List (List UInt8)) (rest:List UInt8):jn (x::L) rest=x++10::jn L rest:=by simp [jn]
theorem jn_lines:∀ (n:Nat) (s:List UInt8),s.length≤n→∃ L rest,parts s [10]=L++[rest]∧(∀ x∈L,(10:UInt8) ∉ x)∧(10:UInt8) ∉ rest∧s=jn L rest:=by
 intro n
 induction n with
 |zero =>
  intro s hs
  have:s=[]:=List.eq_nil_of_length_eq_zero (by omega)
  subst this
  exact ⟨[],[],parts_miss 10 [] (by simp),by simp,by simp,rfl⟩
 |succ n ih =>
  intro s hs
  by_cases h:(10:UInt8)∈s
  ·obtain ⟨x,y,rfl,hx⟩:=List.eq_append_cons_of_mem h
   obtain ⟨L,rest,h1,h2,h3,h4⟩:=ih y (by simp at hs;omega)
   refine ⟨x::L,rest,by rw [parts_hit 10 x y hx,h1];rfl,fun z hz=>?_,h3,by rw [jn_cons,← h4]⟩
   rcases List.mem_cons.1 hz with rfl|hz
   ·exact hx
   ·exact h2 z hz
  ·exact ⟨[],s,parts_miss 10 s h,by simp,h,rfl⟩
theorem jn_sizes:∀ (L:List (List UInt8)) (rest:List UInt8),(∀ x∈L,x.length+1≤(jn L rest).length)∧rest.length≤(jn L rest).length∧L.length≤(jn L rest).length
 |[],rest=>⟨by simp,by simp [jn],by simp⟩
 |y::L,rest=>by
  have ih:=jn_sizes L rest
  rw [jn_cons]
  simp only [List.length_append,List.length_cons]
  refine ⟨fun x hx=>?_,by omega,by omega⟩
  rcases List.mem_cons.1 hx with rfl|hx
  ·omega
  ·have:=ih.1 x hx
   omega
theorem cut_line (x y:List UInt8) (h:(10:UInt8) ∉ x):Lib.cut (x++10::y) [10]=(x,y,true):=by
 unfold Lib.cut
 rw [index_hit1 10 x y h,if_pos (by omega),Int.toNat_natCast,List.take_left]
 have:(x++10::y).drop (x.length+([10]:List UInt8).length)=y:=by
  rw [List.drop_append,List.drop_eq_nil_of_le (by simp)]
  simp
 rw [this]
theorem cut_rest (x:List UInt8) (h:(10:UInt8) ∉ x):Lib.cut x [10]=(x,[],false):=by
 unfold Lib.cut
 rw [index_miss1 10 x h,if_neg (by omega)]
theorem a_cut (s:List UInt8) (hs:s.length≤4294967280):APure cx 31 [.str s,.str [10]] (.tup [.str (Lib.cut s [10]).1,.str (Lib.cut s [10]).2.1,.bool (Lib.cut s [10]).2.2]) :=
 apure_shelf (vs:=[.string ⟨s.toArray⟩,.string ⟨[10].toArray⟩]) (callable_of Tryz.func31 (by kernel_rfl) (by kernel_rfl)) rfl fun w im0 hG=>by
  obtain ⟨m,hm⟩:=GL.int (E:=env0 w im0) (hG 0 _ rfl)
  have hz:(⟨s.toArray⟩ : ByteArray).size=s.length:=rfl
  refine (Tryz.strings_Cut ⟨s.toArray⟩ ⟨[10].toArray⟩ m w (by omega) hm).mono fun e w' h=>?_
  obtain ⟨rfl,n,rfl⟩:=h
  refine ⟨_,rfl,grown_drawn n,.tup _ _ rfl fun j hj=>?_⟩
  match j,hj with
  |0,_=>exact .str _ _ rfl
  |1,_=>exact .str _ _ rfl
  |2,_=>exact .bool _
theorem jn_parts:∀ (L:List (List UInt8)) (rest:List UInt8),(∀ x∈L,(10:UInt8) ∉ x)→(10:UInt8) ∉ rest→parts (jn L rest) [10]=L++[rest]
 |[],rest,_,h=>parts_miss 10 rest h
 |y::L,rest,h1,h2=>by
  rw [jn_cons,parts_hit 10 y _ (h1 y (List.mem_cons_self ..)),jn_parts L rest (fun x hx=>h1 x (List.mem_cons_of_mem _ hx)) h2]
  rfl
end Go.Am
end
section
namespace Go.Am
open Go Go.Proofs
set_option maxHeartbeats 8000000
set_option maxRecDepth 100000
section
attribute [local irreducible] aC aL thenQ blockQ scopeQ ALoop AWp
theorem PL93_3 (z:List AVal):placeOf cx.T ⟨(.struct #[⟨ "s", 48,0,false, "", "anchorite/script", 0⟩,⟨ "n", 3,37,false, "", "anchorite/script", 120⟩,⟨ "rank", 3,38,false, "", "anchorite/script", 128⟩,⟨ "all", 90,39,false, "", "anchorite/script", 136⟩]),40,144,z⟩ 3=some (39,1):=by kernel_rfl
attribute [go_sem] PL93_3
theorem cells_map (i:Nat):(AVal.map i).cells=[.map i]:=rfl
theorem okc_map (i:Nat):(AVal.map i).okc↔True:=okc_one rfl rfl
theorem take32 {m:List UInt8} (h:m.length=32) (n:Nat) (r:List AVal):(bl m++r).take (n+32)=bl m++r.take n:=by
 rw [List.take_append,List.take_of_length_le (by rw [length_bl];omega),length_bl,h];simp
attribute [go_sem] cells_map okc_map
def zS:ABox:=.cells (.int .i64 0 :: .bool false::(bl [0,0,0,0,0,0,0,0,0,0,0,0,0,0,0,0,0,0,0,0,0,0,0,0,0,0,0,0,0,0,0,0]++[.sl 1 true [] .any,.sl 1 true [] .any,.sl 1 true [] .any])) 48
theorem zS_bel (n:Nat) (_:4≤n):belB n zS=true:=rfl
theorem GStep.wkB {C:Cx} {N:Nat} (i:Nat) (cs':List AVal) {fr:Fr} {S:St} {cs:List AVal} {tb:TypeId} (hS:S[i]? = some (.cells cs tb)) (hw:Wks cs cs'):GStep C N fr S fr (S.set i (.cells cs' tb)):=fun E a hE hES hr=>by
 subst hES
 obtain ⟨b,arr,h1,h2,h3,h4⟩:=hE.entry i _ hS
 obtain ⟨x1,x2⟩:=env_set hE (w':=E.w) h1 ⟨rfl,rfl,rfl,Nat.le_refl _,fun _ _ _=>rfl⟩ _ (.cells cs' tb) hS rfl rfl (fun hext=>⟨b,arr,h1,h2,by rw [← Wks_length hw];exact h3,fun j hj=>by
  have hj':j<cs.length:=by rw [Wks_length hw];exact hj
  have r:=h4 j hj'
  exact ⟨(r.1.ext hE hext).wk (Wks_get hw j hj' hj),r.2⟩⟩)
 exact ⟨{ E with S:=E.S.set i (.cells cs' tb) },rfl,x1,x2,rfl,hr.ext hE x1⟩
theorem zRes (n:Nat) (e:Int):psR n e (psC p0) = .tup [.agg (.int .i64 0 :: .bool false::(bl [0,0,0,0,0,0,0,0,0,0,0,0,0,0,0,0,0,0,0,0,0,0,0,0,0,0,0,0,0,0,0,0]++[.sl 32 true [] .any,.sl 1 true [] .any,.sl 11 true [] .any])),.int .i64 (n:Nat),.int .i64 e]:=rfl
noncomputable def preD (L:List (List UInt8)) (k:Nat):Ps:=(preP L k).getD p0
theorem preD_eq {L:List (List UInt8)} {k:Nat} {p:Ps} (h:preP L k=some p):preD L k=p:=by unfold preD;rw [h];rfl
theorem script_Parse (s:List UInt8) (L:List (List UInt8)) (rest:List UInt8) (hs:s.length≤4194304) (hx:∀ x∈L,x.length≤100000) (hL10:∀ x∈L,(10:UInt8) ∉ x) (hr10:(10:UInt8) ∉ rest) (hj:s=jn L rest):APure cx 13 [.str s] (parR L rest):=by
 have hsz:=jn_sizes L rest
 rw [← hj] at hsz
 have hLs:L.length≤4194304:=by have:=hsz.2.2;omega
 have hjl:∀ k,k≤L.length→(jn (L.drop k) rest).length≤4194304:=fun k _=>by
  have e:jn L rest=jn (L.take k) []++jn (L.drop k) rest:=by
   unfold jn
   rw [List.append_nil,← List.append_assoc,← List.flatMap_append,List.take_append_drop]
  have:=congrArg List.length e
  rw [List.length_append,← hj] at this
  omega
 have hjs:jn (L.drop 0) rest=s:=by rw [List.drop_zero,hj]
 have hrl:rest.length≤4194304:=by have:=hsz.2.1;omega
 have hm:=say_map
 clear hsz
 refine pure_fnD cxOk Tryz.func13 (fun _=>false) (fe13.q) (by kernel_rfl) (by dsimp only [Tryz.f13,go_sem,seval,liteO,Option.map,List.map];exact .mk _) ?_
 dsimp only [Tryz.f13,frame0,List.zipIdx,List.map,Nat.reduceAdd]
 try simp only [List.getElem?_toArray,List.getElem?_cons_succ,List.getElem?_cons_zero,Option.bind_some]
 repeat' (first|refine aC_seq ?_|refine aC_reg rfl ?_|refine aC_block ?_|refine aC_skip ?_|refine aC_loop ?_|refine aC_scope ?_|refine thenQ_normal ?_|refine aL_nil ?_|(apply aL_step;(·exact True.intro);(iterate 2 (·simp (disch:=first|omega|(simp only [go_sem];omega)) only [go_sem,seval,set32 (m:=[0,0,0,0,0,0,0,0,0,0,0,0,0,0,0,0,0,0,0,0,0,0,0,0,0,0,0,0,0,0,0,0]) rfl,drop32 (m:=[0,0,0,0,0,0,0,0,0,0,0,0,0,0,0,0,0,0,0,0,0,0,0,0,0,0,0,0,0,0,0,0]) rfl]<;>with_reducible rfl));(·simp only [go_sem]<;>with_reducible rfl))|(refine aC_condP (by simp (disch:=first|omega|(simp only [go_sem];omega)) only [go_sem,seval,set32 (m:=[0,0,0,0,0,0,0,0,0,0,0,0,0,0,0,0,0,0,0,0,0,0,0,0,0,0,0,0,0,0,0,0]) rfl,drop32 (m:=[0,0,0,0,0,0,0,0,0,0,0,0,0,0,0,0,0,0,0,0,0,0,0,0,0,0,0,0,0,0,0,0]) rfl]<;>with_reducible rfl) ?_ ?_<;>(intro h;first|(exfalso;omega)|skip))|(apply aL_aK ((hm _));(·rfl);(iterate 2 (·simp (disch:=first|omega|(simp only [go_sem];omega)) only [go_sem,seval,set32 (m:=[0,0,0,0,0,0,0,0,0,0,0,0,0,0,0,0,0,0,0,0,0,0,0,0,0,0,0,0,0,0,0,0]) rfl,drop32 (m:=[0,0,0,0,0,0,0,0,0,0,0,0,0,0,0,0,0,0,0,0,0,0,0,0,0,0,0,0,0,0,0,0]) rfl]<;>with_reducible rfl));(·simp only [go_sem]<;>with_reducible rfl))|fail)
 all_goals try (first|exact True.intro|exact not_false|omega|(simp (disch:=first|omega|(simp only [go_sem];omega)) only [go_sem,seval]<;>omega))
 ·refine loop_ruleD (cxOk.wp _ _) (cxG.wp _ _) (σ:=Nat) (fun k=>[(8,.str (jn (L.drop k) rest)),(7,.bool true),(6,.int .i64 (k:Nat)),(5,.ptr 2 0),(2,.ptr 0 0)])
   (fun k=>rdP zS (preD L k) k) (fun k=>L.length-k) (fun k=>k≤L.length∧preP L k=some (preD L k))
   4 0 ((GStep.wkB 2 (.int .i64 0 :: .bool false::(bl [0,0,0,0,0,0,0,0,0,0,0,0,0,0,0,0,0,0,0,0,0,0,0,0,0,0,0,0,0,0,0,0]++[.sl 32 true [] .any,.sl 1 true [] .any,.sl 1 true [] .any,.int .i64 0,.int .i64 0,.map 1])) rfl (by simp [Wks,Wk,Wks_app])).trans (GStep.ownG 2 36 11 31 rfl rfl)) ⟨⟨Nat.zero_le _,rfl⟩,Sub.of_all (by simp [Fr.get,← hj]),(by rfl)⟩ (by simp)
   (fun k _=>⟨rdS_bel (by decide) (zS_bel 4 (by decide)) _ _ _ _ _ _ _,by simp [belF,bel,belT,Nat.blt]⟩) ?_
  clear hm
  rintro k ⟨hk,hJ⟩
  have hjk:=hjl k hk
  obtain ⟨hp,hpl⟩:=preP_ok hJ
  by_cases hlt:k<L.length
  ·have hdk:jn (L.drop k) rest=L[k]++10::jn (L.drop (k+1)) rest:=by rw [List.drop_eq_getElem_cons hlt,jn_cons]
   have hcut:=a_cut (jn (L.drop k) rest) (by omega)
   rw [hdk,cut_line _ _ (hL10 _ (List.getElem_mem hlt)),← hdk] at hcut
   simp only at hcut
   have hne2:jn (L.drop k) rest≠[]:=by rw [hdk];simp
   have hbn:(jn (L.drop k) rest==[])=false:=by simp [hne2]
   have hxk:=hx _ (List.getElem_mem hlt)
   have hrt:=reader_take zS zS_bel (preD L k) hp k (by omega) L[k] hxk
   have hsu:=preP_succ hJ hlt
   cases hst:stepP k (preD L k) L[k] with
   |some p' =>
    have hrt:=hrt.1 p' hst
    rw [hst] at hsu
    have hpe:=preD_eq hsu
    clear hst hdk hjl hL10 hx hp
    rw [← hpe] at hsu hrt
    clear hpe
    generalize hR:jn (L.drop k) rest=R at *
    generalize hR2:jn (L.drop (k+1)) rest=R2 at *
    generalize L[k]=x at *
    generalize hS1:rdP zS (preD L k) k=S1 at *
    generalize hS2:rdP zS (preD L (k+1)) (k+1)=S2 at *
    repeat' (first|refine aC_seq ?_|refine aC_reg rfl ?_|refine aC_block ?_|refine aC_skip ?_|refine thenQ_normal ?_|refine blockQ_normal ?_|refine aL_nil ?_|(apply aL_step;(·exact True.intro);(iterate 2 (·simp (disch:=first|omega|(simp only [go_sem];omega)) only [go_sem,seval,hbn,hne2,decide_true,decide_false,not_false_eq_true]<;>with_reducible rfl));(·simp only [go_sem]<;>with_reducible rfl))|(refine aC_condT ?_ ?_;(·simp (disch:=first|omega|(simp only [go_sem];omega)) only [go_sem,seval,hbn,hne2,decide_true,decide_false,not_false_eq_true]))|(refine aC_condF ?_ ?_;(·simp (disch:=first|omega|(simp only [go_sem];omega)) only [go_sem,seval,hbn,hne2,decide_true,decide_false,not_false_eq_true]))|(apply aL_pK cxG (hcut);(iterate 2 (·simp (disch:=first|omega|(simp only [go_sem];omega)) only [go_sem,seval,hbn,hne2,decide_true,decide_false,not_false_eq_true]<;>with_reducible rfl));(·simp only [go_sem]<;>with_reducible rfl);(·simp))|(apply aL_aK (hrt);(·rfl);(iterate 2 (·simp (disch:=first|omega|(simp only [go_sem];omega)) only [go_sem,seval,hbn,hne2,decide_true,decide_false,not_false_eq_true]<;>with_reducible rfl));(·simp only [go_sem]<;>with_reducible rfl))|fail)
    all_goals try (first|exact True.intro|exact not_false|omega|(simp (disch:=first|omega|(simp only [go_sem];omega)) only [go_sem,seval]<;>omega))
    all_goals
    refine ⟨k+1,⟨by omega,hsu⟩,?_,?_,by omega⟩
    ·rw [hR2]
     exact Sub.of_all (by simp [Fr.get])
    ·rw [← hS2]
     rfl
   |none =>
    obtain ⟨C,kk,hrt⟩:=hrt.2 hst
    have hpr:=parR_bad (rest:=rest) hlt hJ hst
    rw [hpr]
    clear hst hdk hjl hL10 hx hp hsu hpr
    generalize hR:jn (L.drop k) rest=R at *
    generalize hR2:jn (L.drop (k+1)) rest=R2 at *
    generalize L[k]=x at *
    generalize hS1:rdP zS (preD L k) k=S1 at *
    unfold zS at hrt
    repeat' (first|refine aC_seq ?_|refine aC_reg rfl ?_|refine aC_block ?_|refine aC_skip ?_|refine scopeQ_ret ?_|refine aC_exit ?_|refine aC_ret ?_|refine thenQ_normal ?_|refine thenQ_ret ?_|refine thenQ_exit ?_|refine blockQ_hit ?_|refine blockQ_miss rfl ?_|refine aL_nil ?_|(apply aL_step;(·exact True.intro);(iterate 2 (·simp (disch:=first|omega|(simp only [go_sem];omega)) only [go_sem,seval,hbn,hne2,decide_true,decide_false,not_false_eq_true]<;>with_reducible rfl));(·simp only [go_sem]<;>with_reducible rfl))|(refine aL_skip ?_ (by simp only [go_sem]<;>with_reducible rfl) ?_;(·simp (disch:=first|omega|(simp only [go_sem];omega)) only [go_sem,seval,hbn,hne2,decide_true,decide_false,not_false_eq_true]))|(refine aC_condT ?_ ?_;(·simp (disch:=first|omega|(simp only [go_sem];omega)) only [go_sem,seval,hbn,hne2,decide_true,decide_false,not_false_eq_true]))|(apply aL_pK cxG (hcut);(iterate 2 (·simp (disch:=first|omega|(simp only [go_sem];omega)) only [go_sem,seval,hbn,hne2,decide_true,decide_false,not_false_eq_true]<;>with_reducible rfl));(·simp only [go_sem]<;>with_reducible rfl);(·simp))|(apply aL_aK (hrt);(·rfl);(iterate 2 (·simp (disch:=first|omega|(simp only [go_sem];omega)) only [go_sem,seval,hbn,hne2,decide_true,decide_false,not_false_eq_true]<;>with_reducible rfl));(·simp only [go_sem]<;>with_reducible rfl))|fail)
    all_goals try (first|exact True.intro|exact not_false|omega|(simp (disch:=first|omega|(simp only [go_sem];omega)) only [go_sem,seval]<;>omega))
    all_goals try (intro _ _ h;exact h.elim)
    all_goals clear hcut
    all_goals rw [zRes]
    all_goals try (simp (disch:=first|omega|(simp only [go_sem];omega)) only [go_sem,seval])
    all_goals try simp [Wk,Wks,Wks_app]
  ·have hk':k=L.length:=by omega
   subst hk'
   rw [List.drop_length,jn_nil] at hjk ⊢
   by_cases hre:rest=[]
   ·subst hre
    have hm:=hp.su.m32
    by_cases h3:L.length<3
    ·have hpr:=parR_end (rest:=[]) hJ (.inr h3)
     rw [hpr]
     clear hJ hjl hL10 hx hp hpr hpl
     generalize preD L L.length=p at *
     obtain ⟨⟨g,i,m,d,e⟩,l,rk⟩:=p
     generalize L.length=n at *
     unfold rdP rdS rdC zS
     simp only at *
     repeat' (first|refine aC_seq ?_|refine aC_reg rfl ?_|refine scopeQ_ret ?_|refine aC_exit ?_|refine aC_ret ?_|refine thenQ_normal ?_|refine thenQ_ret ?_|refine thenQ_exit ?_|refine blockQ_hit ?_|refine aL_nil ?_|(apply aL_step;(·exact True.intro);(iterate 2 (·simp (disch:=first|omega|(simp only [go_sem];omega)) only [go_sem,seval,eq_self_iff_true,decide_true,decide_false,not_false_eq_true]<;>with_reducible rfl));(·simp only [go_sem]<;>with_reducible rfl))|(refine aC_condF ?_ ?_;(·simp (disch:=first|omega|(simp only [go_sem];omega)) only [go_sem,seval,eq_self_iff_true,decide_true,decide_false,not_false_eq_true]))|(refine aC_condP (by simp (disch:=first|omega|(simp only [go_sem];omega)) only [go_sem,seval,eq_self_iff_true,decide_true,decide_false,not_false_eq_true]<;>with_reducible rfl) ?_ ?_<;>(intro h;first|(exfalso;omega)|skip))|fail)
     all_goals try (first|exact True.intro|exact not_false|omega|(simp (disch:=first|omega|(simp only [go_sem];omega)) only [go_sem,seval]<;>omega))
     all_goals try (intro _ _ h;exact h.elim)
     all_goals rw [zRes]
     all_goals try (simp (disch:=first|omega|(simp only [go_sem];omega)) only [go_sem,seval])
     all_goals try simp [Wk,Wks,Wks_app]
    ·have hpr:=parR_ok hJ (by omega)
     rw [hpr]
     clear hJ hjl hL10 hx hp hpr hpl
     generalize preD L L.length=p at *
     obtain ⟨⟨g,i,m,d,e⟩,l,rk⟩:=p
     generalize L.length=n at *
     unfold rdP rdS rdC zS psR psC scC
     simp only at *
     repeat' (first|refine aC_seq ?_|refine aC_reg rfl ?_|refine aC_skip ?_|refine scopeQ_ret ?_|refine aC_exit ?_|refine aC_ret ?_|refine thenQ_normal ?_|refine thenQ_exit ?_|refine blockQ_hit ?_|refine aL_nil ?_|(apply aL_step;(·exact True.intro);(iterate 2 (·simp (disch:=first|omega|(simp only [go_sem];omega)) only [go_sem,seval,eq_self_iff_true,decide_true,decide_false,not_false_eq_true,hm,take32 hm]<;>with_reducible rfl));(·simp only [go_sem]<;>with_reducible rfl))|(refine aC_condF ?_ ?_;(·simp (disch:=first|omega|(simp only [go_sem];omega)) only [go_sem,seval,eq_self_iff_true,decide_true,decide_false,not_false_eq_true,hm,take32 hm]))|(refine aC_condP (by simp (disch:=first|omega|(simp only [go_sem];omega)) only [go_sem,seval,eq_self_iff_true,decide_true,decide_false,not_false_eq_true,hm,take32 hm]<;>with_reducible rfl) ?_ ?_<;>(intro h;first|(exfalso;omega)|skip))|fail)
     all_goals try (first|exact True.intro|exact not_false|omega|(simp (disch:=first|omega|(simp only [go_sem];omega)) only [go_sem,seval]<;>omega))
     all_goals try (intro _ _ h;exact h.elim)
     all_goals try (simp (disch:=first|omega|(simp only [go_sem];omega)) only [go_sem,seval])
     all_goals try simp [Wk,Wks,Wks_app]
     all_goals try omega
   ·have hcut:=a_cut rest (by omega)
    rw [cut_rest rest hr10] at hcut
    simp only at hcut
    have hbn:(rest==[])=false:=by simp [hre]
    have hpr:=parR_end hJ (.inl hre)
    rw [hpr]
    clear hJ hjl hL10 hx hp hpr hpl
    generalize L.length=n at *
    unfold rdP rdS zS
    repeat' (first|refine aC_seq ?_|refine aC_reg rfl ?_|refine aC_block ?_|refine aC_skip ?_|refine scopeQ_ret ?_|refine aC_exit ?_|refine aC_ret ?_|refine thenQ_normal ?_|refine thenQ_ret ?_|refine thenQ_exit ?_|refine blockQ_hit ?_|refine blockQ_miss rfl ?_|refine aL_nil ?_|(apply aL_step;(·exact True.intro);(iterate 2 (·simp (disch:=first|omega|(simp only [go_sem];omega)) only [go_sem,seval,hbn,hre,decide_true,decide_false,not_false_eq_true]<;>with_reducible rfl));(·simp only [go_sem]<;>with_reducible rfl))|(refine aL_skip ?_ (by simp only [go_sem]<;>with_reducible rfl) ?_;(·simp (disch:=first|omega|(simp only [go_sem];omega)) only [go_sem,seval,hbn,hre,decide_true,decide_false,not_false_eq_true]))|(refine aC_condT ?_ ?_;(·simp (disch:=first|omega|(simp only [go_sem];omega)) only [go_sem,seval,hbn,hre,decide_true,decide_false,not_false_eq_true]))|(apply aL_pK cxG (hcut);(iterate 2 (·simp (disch:=first|omega|(simp only [go_sem];omega)) only [go_sem,seval,hbn,hre,decide_true,decide_false,not_false_eq_true]<;>with_reducible rfl));(·simp only [go_sem]<;>with_reducible rfl);(·simp))|fail)
    all_goals try (first|exact True.intro|exact not_false|omega|(simp (disch:=first|omega|(simp only [go_sem];omega)) only [go_sem,seval]<;>omega))
    all_goals try (intro _ _ h;exact h.elim)
    all_goals clear hcut
    all_goals rw [zRes]
    all_goals try (simp (disch:=first|omega|(simp only [go_sem];omega)) only [go_sem,seval])
    all_goals try simp [Wk,Wks,Wks_app]
 all_goals (intro _ _ h;exact h.elim)
end
end Go.Am
end
