/- The law ScriptParses. -/
import Derived.Test.YtodiaabcaahnjaaGreatDoorS12
import Derived.Test.YtodiaabcaahnjaaGreatDoorS17
import Derived.Test.YtodiaabcaahnjaaGreatDoorS44
import Derived.Test.YtodiaabcaahnjaaGreatDoorS38
set_option linter.unusedVariables false
set_option linter.unusedSimpArgs false
namespace Go.Am
open Go Go.Proofs
set_option maxHeartbeats 8000000
set_option maxRecDepth 100000
section
attribute [local irreducible] aC aL thenQ blockQ scopeQ ALoop AWp
@[simp] theorem closed_scC' (s:Su) (nd ne:Bool) (l:List (Sp × Bool)) (ns:Bool):(∀ x∈scC s nd ne l ns,Closed x)↔True:=⟨fun _=>trivial,fun _ x hx=>by
 simp only [scC,List.mem_cons,List.mem_append,List.not_mem_nil,or_false] at hx
 rcases hx with rfl|rfl|hx|rfl|rfl|rfl
 ·simp
 ·simp
 ·exact clos_ok _ (bels_bytes' 0 _) x hx
 ·exact (closed_sl_any _ _ _).2 ((closed_dgs _).2 trivial)
 ·simp
 ·exact (closed_sl_any _ _ _).2 ((closed_sts _).2 trivial)⟩
theorem one_scC' (s:Su) (nd ne:Bool) (l:List (Sp × Bool)) (ns:Bool):∀ x∈scC s nd ne l ns,x.one=true:=fun x hx=>by
 simp only [scC,List.mem_cons,List.mem_append,List.not_mem_nil,or_false] at hx
 rcases hx with rfl|rfl|hx|rfl|rfl|rfl
 ·rfl
 ·rfl
 ·exact (okc_bl _).2 trivial x hx
 ·rfl
 ·rfl
 ·rfl
theorem parses_row (s:List UInt8) (hs:s.length≤20000) (n:Nat) (hn:n≤20000) (e:Int) (p:Ps) (hp:p.Ok) (h1:APure cx 13 [.str s] (psR n e (psC p))) (h2:APure cx 14 [.str s] (psR n e (psC p))) :
  APure cx 4 [.str s] (.bool true):=by
 have hk:=script_known
 have hx:∀ q∈stl p.l,q.1.xs.length=6∧q.1.b.length≤1048576:=fun q hq=>by
  obtain ⟨st,hst,rfl⟩:=List.mem_map.1 hq
  have:=(hp.st st hst).2
  exact ⟨this.x6,by have:=this.bl;simp only;omega⟩
 have hl:p.s.d.length≤1048576∧p.s.e.length≤1048576∧(stl p.l).length≤1048576:=⟨by have:=hp.d4;omega,by have:=hp.e4;omega,by rw [length_stl];have:=hp.l6;omega⟩
 have s1:=ref_Same p.s p.s hp.su hp.su p.s.d.isEmpty p.s.e.isEmpty p.l.isEmpty p.s.d.isEmpty p.s.e.isEmpty p.l.isEmpty (stl p.l) (stl p.l) hx hx hl hl
 rw [decide_eq_true ⟨rfl,rfl⟩] at s1
 have q:=law_num25 e
 have hm:=hp.su.m32
 clear hx hl hp
 unfold psR psC at h1 h2
 have hlen:(scC p.s p.s.d.isEmpty p.s.e.isEmpty (stl p.l) p.l.isEmpty).length=37:=by simp [scC,hm]
 refine pure_fnK cxOk Tryz.func4 (fun _=>false) (fe4.q) (by kernel_rfl) (by dsimp only [Tryz.f4,go_sem,seval,liteO,Option.map,List.map];exact .mk _) ?_
 dsimp only [Tryz.f4,frame0,List.zipIdx,List.map,Nat.reduceAdd]
 try simp only [List.getElem?_toArray,List.getElem?_cons_succ,List.getElem?_cons_zero,Option.bind_some]
 repeat' (first|refine aC_seq ?_|refine aC_reg rfl ?_|refine aC_skip ?_|refine aC_ret ?_|refine thenQ_normal ?_|refine aL_nil ?_|(apply aL_step;(·exact True.intro);(iterate 2 (·simp (disch:=first|omega|(simp only [go_sem];omega)) only [go_sem,seval,eq_self_iff_true,decide_true,hlen]<;>with_reducible rfl));(·simp only [go_sem]<;>with_reducible rfl))|(refine aC_condP (by simp (disch:=first|omega|(simp only [go_sem];omega)) only [go_sem,seval,eq_self_iff_true,decide_true,hlen]<;>with_reducible rfl) ?_ ?_<;>(intro h;first|(exfalso;omega)|skip))|(apply aL_pK cxG (h1);(iterate 2 (·simp (disch:=first|omega|(simp only [go_sem];omega)) only [go_sem,seval,eq_self_iff_true,decide_true,hlen]<;>with_reducible rfl));(·simp only [go_sem]<;>with_reducible rfl);(·simp))|(apply aL_pK cxG (h2);(iterate 2 (·simp (disch:=first|omega|(simp only [go_sem];omega)) only [go_sem,seval,eq_self_iff_true,decide_true,hlen]<;>with_reducible rfl));(·simp only [go_sem]<;>with_reducible rfl);(·simp))|(apply aL_pK cxG (s1);(iterate 2 (·simp (disch:=first|omega|(simp only [go_sem];omega)) only [go_sem,seval,eq_self_iff_true,decide_true,hlen]<;>with_reducible rfl));(·simp only [go_sem]<;>with_reducible rfl);(·simp))|(apply aL_pK cxG (q);(iterate 2 (·simp (disch:=first|omega|(simp only [go_sem];omega)) only [go_sem,seval,eq_self_iff_true,decide_true,hlen]<;>with_reducible rfl));(·simp only [go_sem]<;>with_reducible rfl);(·simp))|(apply aL_pK cxG (hk);(iterate 2 (·simp (disch:=first|omega|(simp only [go_sem];omega)) only [go_sem,seval,eq_self_iff_true,decide_true,hlen]<;>with_reducible rfl));(·simp only [go_sem]<;>with_reducible rfl);(·simp))|fail)
 all_goals try (first|exact True.intro|exact not_false|omega|(simp (disch:=first|omega|(simp only [go_sem];omega)) only [go_sem,seval]<;>omega))
 all_goals clear hk h1 h2 s1 q
 all_goals try exact one_scC' _ _ _ _ _
 all_goals try (simp (disch:=first|omega|(simp only [go_sem];omega)) only [go_sem,seval])
 all_goals try simp
theorem law_parses (s:List UInt8) (hs1:s.length≤9223372036854775807):APure cx 4 [.str s] (.bool true):=by
 by_cases hs:s.length≤20000
 case neg =>
  have hk:=script_known
  refine pure_fnK cxOk Tryz.func4 (fun _=>false) (fe4.q) (by kernel_rfl) (by dsimp only [Tryz.f4,go_sem,seval,liteO,Option.map,List.map];exact .mk _) ?_
  dsimp only [Tryz.f4,frame0,List.zipIdx,List.map,Nat.reduceAdd]
  try simp only [List.getElem?_toArray,List.getElem?_cons_succ,List.getElem?_cons_zero,Option.bind_some]
  repeat' (first|refine aC_seq ?_|refine aC_reg rfl ?_|refine aC_ret ?_|refine thenQ_normal ?_|refine thenQ_ret ?_|refine aL_nil ?_|(apply aL_step;(·exact True.intro);(iterate 2 (·simp (disch:=first|omega|(simp only [go_sem];omega)) only [go_sem,seval]<;>with_reducible rfl));(·simp only [go_sem]<;>with_reducible rfl))|(refine aC_condP (by simp (disch:=first|omega|(simp only [go_sem];omega)) only [go_sem,seval]<;>with_reducible rfl) ?_ ?_<;>(intro h;first|(exfalso;omega)|skip))|(apply aL_pK cxG (hk);(iterate 2 (·simp (disch:=first|omega|(simp only [go_sem];omega)) only [go_sem,seval]<;>with_reducible rfl));(·simp only [go_sem]<;>with_reducible rfl);(·simp))|fail)
  all_goals try (first|exact True.intro|exact not_false|omega|(simp (disch:=first|omega|(simp only [go_sem];omega)) only [go_sem,seval]<;>omega))
  all_goals clear hk
  all_goals try (simp (disch:=first|omega|(simp only [go_sem];omega)) only [go_sem,seval])
  all_goals try simp
 case pos =>
  obtain ⟨L,rest,_,hL,hr,hj⟩:=jn_lines s.length s (Nat.le_refl _)
  have hsz:=jn_sizes L rest
  rw [← hj] at hsz
  have hx:∀ x∈L,x.length≤100000:=fun x hx=>by have:=hsz.1 x hx;omega
  have h1:=script_Parse s L rest (by omega) hx hL hr hj
  have h2:=ref_Parse s L rest (by omega) hx hL hr hj
  rcases parR_cases L rest with ⟨n,hn,e⟩|⟨p,hp,_,_,e⟩
  ·rw [e] at h1 h2
   exact parses_row s hs n (by have:=hsz.2.2;omega) 4 p0 p0_ok h1 h2
  ·rw [e] at h1 h2
   exact parses_row s hs 0 (by omega) 0 p (preP_ok hp).1 h1 h2
end
end Go.Am
