/- Realms at any state: cells, the map; there, own, at. -/
import Derived.Test.YteemcehaekffeaaGreatO04
import Derived.Test.YteemcehaekffeaaGreatAmPost
set_option linter.unusedVariables false
set_option linter.unusedSimpArgs false
section
namespace Go.Am
open Go Go.Proofs
set_option maxHeartbeats 8000000
set_option maxRecDepth 100000
section
attribute [local irreducible] aC aL thenQ blockQ scopeQ ALoop AWp
structure Rp where
 pc:Nat
 regs:List Nat
 run:Bool
structure Rcd where
 k:Int
 v:List UInt8
 pg:Int
 dt:List UInt8
 rp:Rp
structure Rm where
 inst:Nat
 st:Int
 root:Int
 nodes:Nat
 meas:List UInt8
 nl:Bool
 log:List Rcd
 key:List UInt8
 ctr:Nat
 tree:List UInt8
 recs:Int
def rpC (p:Rp):List AVal:=.int .u64 p.pc::(wl p.regs++[.bool p.run])
def rdC (r:Rcd):List AVal:=.int .i64 r.k::(bl r.v++(.int .i64 r.pg::(bl r.dt++rpC r.rp)))
def rmC (r:Rm):List AVal:=.int .u64 r.inst :: .int .i64 r.st :: .int .i64 r.root :: .int .u64 r.nodes::(bl r.meas++(.sl 172 r.nl (gls rdC r.log) .any::(bl r.key++(.int .u64 r.ctr::(bl r.tree++[.int .i64 r.recs])))))
structure Rp.Ok (p:Rp):Prop where
 l:p.regs.length=8
 w:∀ x∈p.regs,x<18446744073709551616
 p:p.pc<18446744073709551616
structure Rcd.Ok (r:Rcd):Prop where
 v:r.v.length=32
 d:r.dt.length=128
 p:r.rp.Ok
structure Rm.Ok (r:Rm):Prop where
 m:r.meas.length=32
 k:r.key.length=32
 t:r.tree.length=32
 l:∀ x∈r.log,x.Ok
 n:r.nl=true→r.log=[]
theorem length_rpC {p:Rp} (h:p.Ok):(rpC p).length=10:=by simp [rpC,wl,h.l]
theorem length_rdC {r:Rcd} (h:r.Ok):(rdC r).length=172:=by simp [rdC,h.v,h.d,length_rpC h.p]
theorem length_rmC {r:Rm} (h:r.Ok):(rmC r).length=103:=by simp [rmC,h.m,h.k,h.t]
theorem bels_rdC (n:Nat) (r:Rcd):bels n (rdC r)=true:=by simp [rdC,rpC,bels,bel,bels_app,bels_bl,bels_wl]
theorem bels_gls_rd (n:Nat) (l:List Rcd):bels n (gls rdC l)=true:=bels_gls (bels_rdC n) l
theorem bels_rmC (n:Nat) (r:Rm):bels n (rmC r)=true:=by simp [rmC,bels,bel,bels_app,bels_bl,bels_gls_rd,belT]
theorem rm_one (r:Rm):∀ c∈rmC r,c.one=true:=fun c hc=>by
 unfold rmC at hc
 simp only [List.mem_cons,List.mem_append,List.not_mem_nil,or_false] at hc
 rcases hc with rfl|rfl|rfl|rfl|hc|rfl|hc|rfl|hc|rfl
 all_goals first|rfl|exact bl_one _ _ hc
abbrev Rs:=List (Int × Rm × Nat)
def rmE (rs:Rs):List (AVal × AVal × Nat):=rs.map fun p=>(.int .i64 p.1,.agg (rmC p.2.1),p.2.2)
def at? (rs:Rs) (rd:Int):Option Nat:=rs.findIdx? fun p=>decide (p.1=rd)
theorem findK_rm (rs:Rs) (rd:Int):findK (.int .i64 rd) (rmE rs)=at? rs rd:=by
 unfold findK rmE at?
 induction rs with
 |nil=>rfl
 |cons p rs ih =>
  rw [List.map_cons,List.findIdx?_cons,List.findIdx?_cons,ih]
  show (if aeqs [.int .i64 rd] [.int .i64 p.1]=true then _ else _)=_
  have e:aeqs [.int .i64 rd] [.int .i64 p.1]=decide (p.1=rd):=by
   rw [aeqs_cons,aeq_int]
   show (rd==p.1&&true)=_
   by_cases h:rd=p.1
   ·subst h;simp
   ·have h':¬ p.1=rd:=fun e=>h e.symm
    simp [h,h']
  rw [e]
theorem keyFit_int (rd:Int):keyFit cx 3 (.int .i64 rd)=true:=by
 unfold keyFit
 rw [T3]
 have h1:flatT cx.P cx.T 20 3=true:=by kernel_rfl
 simp only [h1,Bool.true_and]
 rfl
theorem qkeys_rm (rs:Rs) (rd:Int):keysOk cx 3 (.int .i64 rd) (rmE rs):=by
 refine ⟨keyFit_int rd,fun e he=>?_⟩
 obtain ⟨p,hp,rfl⟩:=List.mem_map.1 he
 exact keyFit_int _
theorem at_lt {rs:Rs} {rd:Int} {p:Nat} (h:at? rs rd=some p):p<rs.length:=(List.findIdx?_eq_some_iff_getElem.1 h).1
theorem at_key {rs:Rs} {rd:Int} {p:Nat} (h:at? rs rd=some p) (hl:p<rs.length):rs[p].1=rd:=by
 have:=(List.findIdx?_eq_some_iff_getElem.1 h).2.1
 simpa using this
theorem look_rm {rs:Rs} {rd:Int} {p:Nat} {e:Int × Rm × Nat} (h:at? rs rd=some p) (he:rs[p]? = some e) (z:AVal):lookV (.int .i64 rd) (rmE rs) z = .agg (rmC e.2.1):=by
 unfold lookV
 rw [findK_rm,h]
 show ((rmE rs).getD p entD).2.1=_
 simp [rmE,List.getD,he]
theorem look_none {rs:Rs} {rd:Int} (h:at? rs rd=none) (z:AVal):lookV (.int .i64 rd) (rmE rs) z=z:=by
 unfold lookV
 rw [findK_rm,h]
theorem set_rm {rs:Rs} {rd:Int} {p:Nat} {e:Int × Rm × Nat} (h:at? rs rd=some p) (he:rs[p]? = some e) (r:Rm) (c:Nat):setK (.int .i64 rd) (.agg (rmC r)) (rmE rs) c = .mp (rmE (rs.set p (e.1,r,e.2.2))) c:=by
 unfold setK
 rw [findK_rm,h]
 have hk:=at_key h (at_lt h)
 have he':rs[p]'(at_lt h)=e:=by
  have:=List.getElem?_eq_getElem (at_lt h)
  rw [he] at this
  exact (Option.some.inj this).symm
 rw [he'] at hk
 show ABox.mp ((rmE rs).set p (.int .i64 rd,.agg (rmC r),((rmE rs).getD p entD).2.2)) c=_
 rw [show (rmE rs).getD p entD=(.int .i64 e.1,.agg (rmC e.2.1),e.2.2) by simp [rmE,List.getD,he]]
 unfold rmE
 rw [List.map_set,hk]
theorem set_new {rs:Rs} {rd:Int} (h:at? rs rd=none) (v:AVal) (c:Nat):setK (.int .i64 rd) v (rmE rs) c = .mp (rmE rs++[(.int .i64 rd,v,c)]) (c+1):=by
 unfold setK
 rw [findK_rm,h]
theorem belM_rm (n:Nat) (rs:Rs):belM n (rmE rs)=true:=belM_iff fun e he=>by
 obtain ⟨p,hp,rfl⟩:=List.mem_map.1 he
 exact ⟨rfl,bels_rmC n _⟩
structure RmsP (S:St) (x a o:Nat) (last:Nat) (rs:Rs) (c:Nat):Prop where
 bx:S[x]? = some (.cells [.ptr o 0,.map a,.int .u64 last] 90)
 mp:S[a]? = some (.mp (rmE rs) c)
 ok:∀ e∈rs,e.2.1.Ok
section
variable {S:St} {x a o last:Nat} {rs:Rs} {c:Nat}
theorem RmsP.lt (h:RmsP S x a o last rs c):x<S.length∧a<S.length :=
 ⟨(List.getElem?_eq_some_iff.1 h.bx).1,(List.getElem?_eq_some_iff.1 h.mp).1⟩
theorem RmsP.ne (h:RmsP S x a o last rs c):x≠a:=by
 rintro rfl
 have:=h.bx
 rw [h.mp] at this
 cases this
theorem RmsP.more (h:RmsP S x a o last rs c) (R:St):RmsP (S++R) x a o last rs c:=by
 obtain ⟨h1,h2⟩:=h.lt
 exact ⟨by rw [List.getElem?_append_left h1];exact h.bx,by rw [List.getElem?_append_left h2];exact h.mp,h.ok⟩
theorem realm_there (h:RmsP S x a o last rs c):ACall cx 29 [.ptr x 0] S (.bool true) S:=by
 have hS:=h.bx
 have ho:=h.lt
 refine oA lq29 ?_
 exact wk @hS
end
theorem clone_records {S:St} (hS:0<S.length) (nd:Bool) (x:List Rcd) (hn:nd=true→x=[]) (hl:x.length≤1000000):ACall cx 63 [.sl 172 nd (gls rdC x) .any] S (.sl 172 nd (gls rdC x) .any) S:=by
 cases nd
 ·have hw:ACall cx 63 [.sl 172 false (gls rdC x) .any] S (.sl 172 false (gls rdC x) (.grow S.length)) (S++[.grow x.length 172 57]):=by
   refine oA lq63 ?_
   have F:=True.intro
   repeat' (first|refine st F ?_|(refine cp F ?_ ?_<;>intro h)|refine zT F ?_ ?_)
   all_goals try exact cl True.intro
   all_goals try (simp (disch:=first|omega|(simp only [go_sem];omega)) only [go_sem,seval,reduceCtorEq,length_gls])
   all_goals try simp
   all_goals omega
  exact (hw.wk (r':=.sl 172 false (gls rdC x) .any) (Wks_refl _) (by simp [Wk])).keep cxG hS rfl (by simp [bel,bels_gls_rd,belT]) fun i x hx=>.inl hx
 ·rw [gls_nil (hn rfl)]
  have hw:ACall cx 63 [.sl 172 true [] .any] S (.sl 1 true [] .any) S:=by
   refine oA lq63 ?_
   exact wk True.intro
  exact hw.wk (Wks_refl _) (by simp [Wk])
theorem clone_recordsG {S:St} (x:List Rcd) (hl:x.length≤1000000):ACall cx 63 [.sl 172 false (gls rdC x) .any] S (.sl 172 false (gls rdC x) (.grow S.length)) (S++[.grow x.length 172 57]):=by
 refine oA lq63 ?_
 have F:=True.intro
 repeat' (first|refine st F ?_|(refine cp F ?_ ?_<;>intro h)|refine zT F ?_ ?_)
 all_goals try exact cl True.intro
 all_goals try (simp (disch:=first|omega|(simp only [go_sem];omega)) only [go_sem,seval,reduceCtorEq,length_gls])
 all_goals try simp
 all_goals omega
theorem realm_own {S:St} (hS:0<S.length) (r:Rm) (h:r.Ok) (hl:r.log.length≤1000000):ACall cx 28 [.agg (rmC r)] S (.agg (rmC r)) S:=by
 have hc:=fun R:St=>clone_records (S:=S++R) (by simp;omega) r.nl r.log h.n hl
 have j1:=fun n q=>o_drop h.m n q
 have j2:=fun n q=>o_get h.m n q
 have j3:=fun n q cs hh=>o_put h.m n q cs hh
 have j4:(rmC r).take 103=rmC r:=List.take_of_length_le (by rw [length_rmC h];exact Nat.le_refl _)
 have j5:=length_rmC h
 have j6:=rm_one r
 have h1:=h.m
 have h2:=h.k
 have h3:=h.t
 have j7:(bl r.meas).length=32:=by rw [length_bl];exact h1
 have hw:ACall cx 28 [.agg (rmC r)] S (.agg (rmC r)) (S++[.cells (rmC r) 37,.cells (rmC r) 37]):=by
  unfold rmC at *
  refine oA lq28 ?_
  have F:=(pk7 @j1 @j2 @j3 @j4 @j5 @j7 @o_put0)
  repeat' (first|refine st1 F hc ?_|(refine cp F ?_ ?_<;>intro h)|refine zT F ?_ ?_)
  all_goals try exact cl F
  all_goals try simp
  all_goals (intro c hc;exact j6 c (by simp only [List.mem_cons,List.mem_append,List.not_mem_nil,or_false];exact .inr (.inr (.inr (.inr hc)))))
 exact hw.keep cxG hS rfl (bels_rmC _ r) fun i x hx=>.inl hx
end
end Go.Am
end
section
namespace Go.Am
open Go Go.Proofs
set_option maxHeartbeats 8000000
set_option maxRecDepth 100000
section
attribute [local irreducible] aC aL thenQ blockQ scopeQ ALoop AWp
section
variable {S:St} {x a o last:Nat} {rs:Rs} {c:Nat}
theorem realm_at_none (h:RmsP S x a o last rs c) {rd:Int} (hr:at? rs rd=none) (fn:AVal):ACall cx 26 [.ptr x 0,.int .i64 rd,fn] S (.int .i64 6) S:=by
 have hT:=realm_there h
 have hS:=h.bx
 have hM:=h.mp
 have ho:=h.lt
 have hL:=fun z=>look_none hr z
 have hF:=(findK_rm rs rd).trans hr
 have hQ:=qkeys_rm rs rd
 have hw:ACall cx 26 [.ptr x 0,.int .i64 rd,fn] S (.int .i64 6) (S++[.cells ti37.zero 37]):=by
  refine oA lq26 ?_
  have F:=(pk4 @hS @hM @hL @hF)
  repeat' (first|refine st1 F hT ?_|(refine cp F ?_ ?_<;>intro h)|refine zT F ?_ ?_|refine mLT F ?_ ?_|refine mUT F ?_ ?_|refine mDT F ?_ ?_|(refine gP F ?_ ?_<;>(intro h;first|(exfalso;omega)|(simp only [h,decide_true,decide_false,not_true,not_false_iff])))|(refine gN F ?_ ?_<;>(intro h;first|(exfalso;omega)|(simp only [h,decide_true,decide_false,not_true,not_false_iff]))))
  all_goals try exact cl True.intro
  all_goals try (simp (disch:=first|omega|(simp only [go_sem];omega)) only [go_sem,seval,reduceCtorEq,hS,hM,hL,hF,Option.isSome_none,Option.isSome_some])
  all_goals try simp
  all_goals try exact hQ
  all_goals try exact o_put0 rfl
  all_goals (rintro c (hc|rfl|hc|rfl|hc|rfl)<;>first|rfl|exact bl_one _ _ hc)
 exact hw.keep cxG (by omega) rfl rfl fun i y hy=>.inl hy
theorem realm_at_hit (h:RmsP S x a o last rs c) {rd:Int} {p:Nat} {e:Int × Rm × Nat} (hp:at? rs rd=some p) (he:rs[p]? = some e) {f:FuncId} {bs:List AVal} {er:Int} {r':Rm} {S':St} (hk:r'.Ok)
  (hd:ACall cx f (.ptr S.length 0::bs) (S++[.cells (rmC e.2.1) 37]) (.int .i64 er) (S'++[.cells (rmC r') 37])) (hl:S'.length=S.length) (hx:S'[x]? = S[x]?) (ha:S'[a]? = S[a]?)
  (hB:∀ (i:Nat) (y:ABox),S'[i]? = some y→S[i]? = some y∨belB S.length y=true) :
  ACall cx 26 [.ptr x 0,.int .i64 rd,.fn (.func f) [] bs] S (.int .i64 er) (if er=0 then S'.set a (.mp (rmE (rs.set p (e.1,r',e.2.2))) c) else S'):=by
 have hT:=realm_there h
 have hS:=h.bx
 have hM:=h.mp
 have ho:=h.lt
 have hL:=fun z=>look_rm hp he z
 have hF:=(findK_rm rs rd).trans hp
 have hQ:=qkeys_rm rs rd
 have hU:=fun r c=>set_rm hp he r c
 have hx':=hx.trans h.bx
 have ha':=ha.trans h.mp
 have i1:=length_rmC (h.ok e (List.mem_of_getElem? he))
 have i2:=rm_one e.2.1
 have i3:=length_rmC hk
 have i4:=rm_one r'
 have i5:(rmC r').take 103=rmC r':=List.take_of_length_le (by omega)
 have i6:(rmC e.2.1).take 103=rmC e.2.1:=List.take_of_length_le (by omega)
 have hn:(rmC e.2.1).length=(ti37.zero).length:=by rw [i1];rfl
 have hw:ACall cx 26 [.ptr x 0,.int .i64 rd,.fn (.func f) [] bs] S (.int .i64 er) ((if er=0 then S'.set a (.mp (rmE (rs.set p (e.1,r',e.2.2))) c) else S')++[.cells (rmC r') 37]):=by
  by_cases h0:er=0
  ·subst h0
   rw [if_pos rfl]
   refine oA lq26 ?_
   have F:=(pk12 @hS @hM @hL @hF @hU @hx' @ha' @hl @i1 @i3 @i5 (pk2 @i6 @o_put0))
   repeat' (first|refine st2 F hT hd ?_|(refine cp F ?_ ?_<;>intro h)|refine zT F ?_ ?_|refine mLT F ?_ ?_|refine mUT F ?_ ?_|refine mDT F ?_ ?_|(refine gP F ?_ ?_<;>(intro h;first|(exfalso;omega)|(simp only [h,decide_true,decide_false,not_true,not_false_iff])))|(refine gN F ?_ ?_<;>(intro h;first|(exfalso;omega)|(simp only [h,decide_true,decide_false,not_true,not_false_iff]))))
   all_goals try exact cl F
   all_goals try simp
   all_goals try exact hQ
  ·rw [if_neg h0]
   refine oA lq26 ?_
   have F:=(pk12 @hS @hM @hL @hF @hU @hx' @ha' @hl @i1 @i3 @i5 (pk3 @i6 @o_put0 @h0))
   repeat' (first|refine st2 F hT hd ?_|(refine cp F ?_ ?_<;>intro h)|refine zT F ?_ ?_|refine mLT F ?_ ?_|refine mUT F ?_ ?_|refine mDT F ?_ ?_|(refine gP F ?_ ?_<;>(intro h;first|(exfalso;omega)|(simp only [h,decide_true,decide_false,not_true,not_false_iff])))|(refine gN F ?_ ?_<;>(intro h;first|(exfalso;omega)|(simp only [h,decide_true,decide_false,not_true,not_false_iff]))))
   all_goals try exact cl F
   all_goals try simp
   all_goals try exact hQ
 refine hw.keep cxG (by omega) (by split<;>simp [hl]) rfl fun i y hy=>?_
 split at hy
 ·by_cases e1:i=a
  ·subst e1
   rw [List.getElem?_set_self (by omega)] at hy
   rw [← Option.some.inj hy]
   exact .inr (belM_rm _ _)
  ·rw [List.getElem?_set_ne (Ne.symm e1)] at hy
   exact hB i y hy
 ·exact hB i y hy
end
theorem do_kill {S:St} {i:Nat} {r:Rm} (hS:S[i]? = some (.cells (rmC r) 37)) (h:r.Ok):ACall cx 73 [.ptr i 0] S (.int .i64 0) (S.set i (.cells (rmC { r with st:=3 }) 37)):=by
 have j1:=fun n q=>o_drop h.m n q
 have j2:=fun n q=>o_get h.m n q
 have j3:=fun n q cs hh=>o_put h.m n q cs hh
 have k1:=fun n q=>o_drop h.k n q
 have k2:=fun n q=>o_get h.k n q
 have k3:=fun n q cs hh=>o_put h.k n q cs hh
 have t1:=fun n q=>o_drop h.t n q
 have t2:=fun n q=>o_get h.t n q
 have t3:=fun n q cs hh=>o_put h.t n q cs hh
 have h1:=h.m
 have h2:=h.k
 have h3:=h.t
 have j7:(bl r.meas).length=32:=by rw [length_bl];exact h1
 have k7:(bl r.key).length=32:=by rw [length_bl];exact h2
 have t7:(bl r.tree).length=32:=by rw [length_bl];exact h3
 have hi:i<S.length:=(List.getElem?_eq_some_iff.1 hS).1
 unfold rmC at *
 refine oA lq73 ?_
 exact wk (pk12 @hS @j1 @j2 @j3 @k1 @k2 @k3 @t1 @t2 @t3 @j7 (pk4 @k7 @t7 @o_put0 @o_putP))
theorem do_activate {S:St} {i:Nat} {r:Rm} (hS:S[i]? = some (.cells (rmC r) 37)) (h:r.Ok) (hst:r.st=1):ACall cx 58 [.ptr i 0] S (.int .i64 0) (S.set i (.cells (rmC { r with st:=2 }) 37)):=by
 have j1:=fun n q=>o_drop h.m n q
 have j2:=fun n q=>o_get h.m n q
 have j3:=fun n q cs hh=>o_put h.m n q cs hh
 have k1:=fun n q=>o_drop h.k n q
 have k2:=fun n q=>o_get h.k n q
 have k3:=fun n q cs hh=>o_put h.k n q cs hh
 have t1:=fun n q=>o_drop h.t n q
 have t2:=fun n q=>o_get h.t n q
 have t3:=fun n q cs hh=>o_put h.t n q cs hh
 have h1:=h.m
 have h2:=h.k
 have h3:=h.t
 have j7:(bl r.meas).length=32:=by rw [length_bl];exact h1
 have k7:(bl r.key).length=32:=by rw [length_bl];exact h2
 have t7:(bl r.tree).length=32:=by rw [length_bl];exact h3
 have hi:i<S.length:=(List.getElem?_eq_some_iff.1 hS).1
 unfold rmC at *
 refine oA lq58 ?_
 exact wk (pk12 @hS @j1 @j2 @j3 @k1 @k2 @k3 @t1 @t2 @t3 @j7 (pk5 @k7 @t7 @o_put0 @o_putP @hst))
theorem do_activate_no {S:St} {i:Nat} {r:Rm} (hS:S[i]? = some (.cells (rmC r) 37)) (h:r.Ok) (hst:¬ r.st=1):ACall cx 58 [.ptr i 0] S (.int .i64 7) (S):=by
 have j1:=fun n q=>o_drop h.m n q
 have j2:=fun n q=>o_get h.m n q
 have j3:=fun n q cs hh=>o_put h.m n q cs hh
 have k1:=fun n q=>o_drop h.k n q
 have k2:=fun n q=>o_get h.k n q
 have k3:=fun n q cs hh=>o_put h.k n q cs hh
 have t1:=fun n q=>o_drop h.t n q
 have t2:=fun n q=>o_get h.t n q
 have t3:=fun n q cs hh=>o_put h.t n q cs hh
 have h1:=h.m
 have h2:=h.k
 have h3:=h.t
 have j7:(bl r.meas).length=32:=by rw [length_bl];exact h1
 have k7:(bl r.key).length=32:=by rw [length_bl];exact h2
 have t7:(bl r.tree).length=32:=by rw [length_bl];exact h3
 have hi:i<S.length:=(List.getElem?_eq_some_iff.1 hS).1
 unfold rmC at *
 refine oA lq58 ?_
 exact wk (pk12 @hS @j1 @j2 @j3 @k1 @k2 @k3 @t1 @t2 @t3 @j7 (pk5 @k7 @t7 @o_put0 @o_putP @hst))
theorem do_next {S:St} {i:Nat} {r:Rm} (hS:S[i]? = some (.cells (rmC r) 37)) (h:r.Ok) {j:Nat} {n0:AVal} (hj:S[j]? = some (.cells [n0] 31)) (hij:i≠j) (hc:r.ctr<4294967296):ACall cx 49 [.ptr i 0,.ptr j 0] S (.int .i64 0) ((S.set i (.cells (rmC { r with ctr:=r.ctr+1 }) 37)).set j (.cells [.int .u64 (r.ctr+1:Nat)] 31)):=by
 have j1:=fun n q=>o_drop h.m n q
 have j2:=fun n q=>o_get h.m n q
 have j3:=fun n q cs hh=>o_put h.m n q cs hh
 have k1:=fun n q=>o_drop h.k n q
 have k2:=fun n q=>o_get h.k n q
 have k3:=fun n q cs hh=>o_put h.k n q cs hh
 have t1:=fun n q=>o_drop h.t n q
 have t2:=fun n q=>o_get h.t n q
 have t3:=fun n q cs hh=>o_put h.t n q cs hh
 have h1:=h.m
 have h2:=h.k
 have h3:=h.t
 have j7:(bl r.meas).length=32:=by rw [length_bl];exact h1
 have k7:(bl r.key).length=32:=by rw [length_bl];exact h2
 have t7:(bl r.tree).length=32:=by rw [length_bl];exact h3
 have hi:i<S.length:=(List.getElem?_eq_some_iff.1 hS).1
 unfold rmC at *
 have hj':j<S.length:=(List.getElem?_eq_some_iff.1 hj).1
 have hji:j≠i:=Ne.symm hij
 have hc':¬ ((r.ctr:Nat):Int)=4294967296:=by omega
 have hc2:(((r.ctr:Nat):Int)+1)%18446744073709551616=((r.ctr+1:Nat):Int):=by omega
 refine oA lq49 ?_
 have F:=(pk12 @hS @j1 @j2 @j3 @k1 @k2 @k3 @t1 @t2 @t3 @j7 (pk9 @k7 @t7 @o_put0 @o_putP @hj @hc' @hc2 @hij @hji))
 repeat' (first|refine st F ?_|(refine cp F ?_ ?_<;>intro h)|refine zT F ?_ ?_)
 all_goals try exact cl True.intro
 all_goals try (simp (disch:=first|omega|(simp only [go_sem];omega)) only [go_sem,seval,reduceCtorEq,hS,j1,j2,j3,k1,k2,k3,t1,t2,t3,j7,k7,t7,o_put0,o_putP,hj,hc',hc2,hij,hji,decide_false])
 all_goals try simp
 all_goals try omega
theorem do_droprec_no {S:St} {i:Nat} {r:Rm} (hS:S[i]? = some (.cells (rmC r) 37)) (h:r.Ok) (hst:r.recs=0):ACall cx 72 [.ptr i 0] S (.int .i64 2) (S):=by
 have j1:=fun n q=>o_drop h.m n q
 have j2:=fun n q=>o_get h.m n q
 have j3:=fun n q cs hh=>o_put h.m n q cs hh
 have k1:=fun n q=>o_drop h.k n q
 have k2:=fun n q=>o_get h.k n q
 have k3:=fun n q cs hh=>o_put h.k n q cs hh
 have t1:=fun n q=>o_drop h.t n q
 have t2:=fun n q=>o_get h.t n q
 have t3:=fun n q cs hh=>o_put h.t n q cs hh
 have h1:=h.m
 have h2:=h.k
 have h3:=h.t
 have j7:(bl r.meas).length=32:=by rw [length_bl];exact h1
 have k7:(bl r.key).length=32:=by rw [length_bl];exact h2
 have t7:(bl r.tree).length=32:=by rw [length_bl];exact h3
 have hi:i<S.length:=(List.getElem?_eq_some_iff.1 hS).1
 unfold rmC at *
 refine oA lq72 ?_
 exact wk (pk12 @hS @j1 @j2 @j3 @k1 @k2 @k3 @t1 @t2 @t3 @j7 (pk5 @k7 @t7 @o_put0 @o_putP @hst))
theorem do_droprec {S:St} {i:Nat} {r:Rm} (hS:S[i]? = some (.cells (rmC r) 37)) (h:r.Ok) (hst:0<r.recs) (hst2:r.recs<1000000):ACall cx 72 [.ptr i 0] S (.int .i64 0) (S.set i (.cells (rmC { r with recs:=r.recs-1 }) 37)):=by
 have j1:=fun n q=>o_drop h.m n q
 have j2:=fun n q=>o_get h.m n q
 have j3:=fun n q cs hh=>o_put h.m n q cs hh
 have k1:=fun n q=>o_drop h.k n q
 have k2:=fun n q=>o_get h.k n q
 have k3:=fun n q cs hh=>o_put h.k n q cs hh
 have t1:=fun n q=>o_drop h.t n q
 have t2:=fun n q=>o_get h.t n q
 have t3:=fun n q cs hh=>o_put h.t n q cs hh
 have h1:=h.m
 have h2:=h.k
 have h3:=h.t
 have j7:(bl r.meas).length=32:=by rw [length_bl];exact h1
 have k7:(bl r.key).length=32:=by rw [length_bl];exact h2
 have t7:(bl r.tree).length=32:=by rw [length_bl];exact h3
 have hi:i<S.length:=(List.getElem?_eq_some_iff.1 hS).1
 unfold rmC at *
 have hst':¬ r.recs=0:=by omega
 refine oA lq72 ?_
 exact wk (pk12 @hS @j1 @j2 @j3 @k1 @k2 @k3 @t1 @t2 @t3 @j7 (pk5 @k7 @t7 @o_put0 @o_putP @hst'))
theorem do_drop {S:St} {i:Nat} {r:Rm} (hS:S[i]? = some (.cells (rmC r) 37)) (h:r.Ok) (hst:r.recs=0):ACall cx 61 [.ptr i 0] S (.int .i64 0) (S):=by
 have j1:=fun n q=>o_drop h.m n q
 have j2:=fun n q=>o_get h.m n q
 have j3:=fun n q cs hh=>o_put h.m n q cs hh
 have k1:=fun n q=>o_drop h.k n q
 have k2:=fun n q=>o_get h.k n q
 have k3:=fun n q cs hh=>o_put h.k n q cs hh
 have t1:=fun n q=>o_drop h.t n q
 have t2:=fun n q=>o_get h.t n q
 have t3:=fun n q cs hh=>o_put h.t n q cs hh
 have h1:=h.m
 have h2:=h.k
 have h3:=h.t
 have j7:(bl r.meas).length=32:=by rw [length_bl];exact h1
 have k7:(bl r.key).length=32:=by rw [length_bl];exact h2
 have t7:(bl r.tree).length=32:=by rw [length_bl];exact h3
 have hi:i<S.length:=(List.getElem?_eq_some_iff.1 hS).1
 unfold rmC at *
 refine oA lq61 ?_
 exact wk (pk12 @hS @j1 @j2 @j3 @k1 @k2 @k3 @t1 @t2 @t3 @j7 (pk5 @k7 @t7 @o_put0 @o_putP @hst))
theorem do_drop_no {S:St} {i:Nat} {r:Rm} (hS:S[i]? = some (.cells (rmC r) 37)) (h:r.Ok) (hst:0<r.recs):ACall cx 61 [.ptr i 0] S (.int .i64 9) (S):=by
 have j1:=fun n q=>o_drop h.m n q
 have j2:=fun n q=>o_get h.m n q
 have j3:=fun n q cs hh=>o_put h.m n q cs hh
 have k1:=fun n q=>o_drop h.k n q
 have k2:=fun n q=>o_get h.k n q
 have k3:=fun n q cs hh=>o_put h.k n q cs hh
 have t1:=fun n q=>o_drop h.t n q
 have t2:=fun n q=>o_get h.t n q
 have t3:=fun n q cs hh=>o_put h.t n q cs hh
 have h1:=h.m
 have h2:=h.k
 have h3:=h.t
 have j7:(bl r.meas).length=32:=by rw [length_bl];exact h1
 have k7:(bl r.key).length=32:=by rw [length_bl];exact h2
 have t7:(bl r.tree).length=32:=by rw [length_bl];exact h3
 have hi:i<S.length:=(List.getElem?_eq_some_iff.1 hS).1
 unfold rmC at *
 refine oA lq61 ?_
 exact wk (pk12 @hS @j1 @j2 @j3 @k1 @k2 @k3 @t1 @t2 @t3 @j7 (pk5 @k7 @t7 @o_put0 @o_putP @hst))
theorem do_settree {S:St} {i:Nat} {r:Rm} (hS:S[i]? = some (.cells (rmC r) 37)) (h:r.Ok) {j:Nat} {t:List UInt8} (hj:S[j]? = some (.cells (bl t) 34)) (hij:i≠j) (ht:t.length=32):ACall cx 74 [.ptr i 0,.ptr j 0] S (.int .i64 0) (S.set i (.cells (rmC { r with tree:=t }) 37)):=by
 have j1:=fun n q=>o_drop h.m n q
 have j2:=fun n q=>o_get h.m n q
 have j3:=fun n q cs hh=>o_put h.m n q cs hh
 have k1:=fun n q=>o_drop h.k n q
 have k2:=fun n q=>o_get h.k n q
 have k3:=fun n q cs hh=>o_put h.k n q cs hh
 have t1:=fun n q=>o_drop h.t n q
 have t2:=fun n q=>o_get h.t n q
 have t3:=fun n q cs hh=>o_put h.t n q cs hh
 have h1:=h.m
 have h2:=h.k
 have h3:=h.t
 have j7:(bl r.meas).length=32:=by rw [length_bl];exact h1
 have k7:(bl r.key).length=32:=by rw [length_bl];exact h2
 have t7:(bl r.tree).length=32:=by rw [length_bl];exact h3
 have hi:i<S.length:=(List.getElem?_eq_some_iff.1 hS).1
 unfold rmC at *
 have hj':j<S.length:=(List.getElem?_eq_some_iff.1 hj).1
 have hji:j≠i:=Ne.symm hij
 have ht':(bl t).length=32:=by rw [length_bl];exact ht
 have ht2:(bl t).take 32=bl t:=List.take_of_length_le (by omega)
 refine oA lq74 ?_
 exact wk (pk12 @hS @j1 @j2 @j3 @k1 @k2 @k3 @t1 @t2 @t3 @j7 (pk9 @k7 @t7 @o_put0 @o_putP @hj @hij @hji @ht' @ht2))
end
end Go.Am
end
section
namespace Go.Am
open Go Go.Proofs
set_option maxHeartbeats 8000000
set_option maxRecDepth 100000
section
attribute [local irreducible] aC aL thenQ blockQ scopeQ ALoop AWp
theorem gls_snoc {α:Type} {enc:α→List AVal} (l:List α) (v:α):gls enc l++[.agg (enc v)]=gls enc (l++[v]):=by simp [gls]
theorem rd_one (r:Rcd):∀ c∈rdC r,c.one=true:=fun c hc=>by
 unfold rdC rpC at hc
 simp only [List.mem_cons,List.mem_append,List.not_mem_nil,or_false] at hc
 rcases hc with rfl|hc|rfl|hc|rfl|hc|rfl
 all_goals first|rfl|exact bl_one _ _ hc|skip
 obtain ⟨y,_,rfl⟩:=List.mem_map.1 hc
 rfl
def grw (r:Rm) (m:List UInt8) (d:Rcd):Rm:={ r with meas:=m,log:=r.log++[d] }
theorem grw_ok {r:Rm} (h:r.Ok) {m:List UInt8} (hm:m.length=32) {d:Rcd} (hd:d.Ok) (hn:r.nl=false):(grw r m d).Ok :=
 ⟨hm,h.k,h.t,fun x hx=>by
  rcases List.mem_append.1 hx with hx|hx
  ·exact h.l x hx
  ·rw [List.mem_singleton.1 hx];exact hd,fun h=>by rw [show (grw r m d).nl=r.nl from rfl,hn] at h;cases h⟩
theorem do_grown {S:St} {i:Nat} {r:Rm} (hS:S[i]? = some (.cells (rmC r) 37)) (h:r.Ok) (hn:r.nl=false) (hl:r.log.length≤900000) {d:Rcd} (hd:d.Ok) {m:List UInt8} (hm:m.length=32) (u:AVal) :
  ACall cx 60 [u,.ptr i 0,.agg (rdC d),.agg (bl m),.int .i64 0] S (.int .i64 0) (S.set i (.cells (rmC (grw r m d)) 37)):=by
 have hrm:=length_rmC (grw_ok h hm hd hn)
 have hS0:=hS
 have hc:=fun R:St=>clone_recordsG (S:=S++R) r.log (by omega)
 have d1:=length_rdC hd
 have d2:=rd_one d
 have d3:(rdC d).take 172=rdC d:=List.take_of_length_le (by omega)
 have m1:(bl m).length=32:=by rw [length_bl];exact hm
 have m2:(bl m).take 32=bl m:=List.take_of_length_le (by omega)
 have m3:=fun n q cs hh=>o_put hm n q cs hh
 have g1:=gls_snoc (enc:=rdC) r.log d
 have hg:=hn
 have j1:=fun n q=>o_drop h.m n q
 have j2:=fun n q=>o_get h.m n q
 have j3:=fun n q cs hh=>o_put h.m n q cs hh
 have k1:=fun n q=>o_drop h.k n q
 have k2:=fun n q=>o_get h.k n q
 have k3:=fun n q cs hh=>o_put h.k n q cs hh
 have t1:=fun n q=>o_drop h.t n q
 have t2:=fun n q=>o_get h.t n q
 have t3:=fun n q cs hh=>o_put h.t n q cs hh
 have h1:=h.m
 have h2:=h.k
 have h3:=h.t
 have j7:(bl r.meas).length=32:=by rw [length_bl];exact h1
 have k7:(bl r.key).length=32:=by rw [length_bl];exact h2
 have t7:(bl r.tree).length=32:=by rw [length_bl];exact h3
 unfold rmC at hS
 have hi:i<S.length:=(List.getElem?_eq_some_iff.1 hS).1
 rw [hn] at hS
 have hw:ACall cx 60 [u,.ptr i 0,.agg (rdC d),.agg (bl m),.int .i64 0] S (.int .i64 0) (S.set i (.cells (.int .u64 r.inst :: .int .i64 r.st :: .int .i64 r.root :: .int .u64 r.nodes::(bl m++(.sl 172 false (gls rdC (r.log++[d])) (.grow (S.length+2))::(bl r.key++(.int .u64 r.ctr::(bl r.tree++[.int .i64 r.recs])))))) 37)++[.cells (rdC d) 57,.cells (bl m) 34,.grow (r.log.length+1) 172 57]):=by
  refine oA lq60 ?_
  have F:=(pk12 @hS @j1 @j2 @j3 @k1 @k2 @k3 @t1 @t2 @t3 @j7 (pk4 @k7 @t7 @o_put0 @o_putP))
  repeat' (first|refine st F ?_|(refine cp F ?_ ?_<;>intro h)|refine zT F ?_ ?_)
  refine aC_regB (U:=[(some 15,some 20),(some 21,some 20),(some 15,some 23)]) rfl [(some 15,S.length+1),(some 19,i),(some 21,S.length)] ?_
  have F:=(pk12 @hS @j1 @j2 @j3 @k1 @k2 @k3 @t1 @t2 @t3 @j7 (pk11 @k7 @t7 @o_put0 @o_putP @d1 @d3 @m1 @m2 @m3 @g1 @length_gls))
  repeat' refine sb1 F hc ?_
  have F:=(pk12 @hS @j1 @j2 @j3 @k1 @k2 @k3 @t1 @t2 @t3 @j7 (pk4 @k7 @t7 @o_put0 @o_putP))
  repeat' (first|refine st F ?_|(refine cp F ?_ ?_<;>intro h)|refine zT F ?_ ?_)
  all_goals try exact cl True.intro
  all_goals try (simp (disch:=first|omega|(simp only [go_sem];omega)) only [go_sem,seval,reduceCtorEq,hS,j1,j2,j3,k1,k2,k3,t1,t2,t3,j7,k7,t7,o_put0,o_putP,d1,d3,m1,m2,m3,g1,length_gls])
  all_goals try simp
  all_goals try omega
 have hw2:=hw.wkBox i (rmC (grw r m d)) (by rw [List.getElem?_append_left (by simpa using hi),List.getElem?_set_self hi]) (by simp [grw,rmC,Wks,Wk,Wks_app,Wk_refl,hg])
 rw [List.set_append_left _ _ (by simpa using hi),List.set_set] at hw2
 refine hw2.keep cxG (by omega) (by simp) rfl fun j y hy=>?_
 by_cases e1:j=i
 ·subst e1
  rw [List.getElem?_set_self hi] at hy
  rw [← Option.some.inj hy]
  exact .inr (bels_rmC _ _)
 ·rw [List.getElem?_set_ne (Ne.symm e1)] at hy
  exact .inl hy
end
end Go.Am
end
section
namespace Go.Am
open Go Go.Proofs
set_option maxHeartbeats 8000000
set_option maxRecDepth 100000
section
attribute [local irreducible] aC aL thenQ blockQ scopeQ ALoop AWp
theorem params_word (n:Nat) (hn:n<18446744073709551616):APure cx 113 [.int .u64 n] (.sl 1 false (bl (putl n 8)) .any):=by
 have hp:=wire_put n 8 (by decide) (by decide) (by simpa using hn)
 refine pure_fnK cxOk Tryz.func113 (fun _=>false) (fe113.q) (by kernel_rfl) (by dsimp only [Tryz.f113,go_sem,seval,liteO,Option.map,List.map];exact .mk _) ?_
 dsimp only [Tryz.f113,frame0,List.zipIdx,List.map,Nat.reduceAdd]
 repeat' (first|refine aC_seq ?_|refine aC_reg rfl ?_|refine aC_ret ?_|refine thenQ_normal ?_|refine aL_nil ?_|(apply aL_step;(·exact True.intro);(iterate 2 (·simp (disch:=omega) only [go_sem,seval,]<;>with_reducible rfl));(·simp only [go_sem]<;>with_reducible rfl))|(apply aL_pK cxG (hp);(iterate 2 (·simp (disch:=omega) only [go_sem,seval,]<;>with_reducible rfl));(·simp only [go_sem]<;>with_reducible rfl);(·simp))|fail)
 all_goals try (first|exact True.intro|exact not_false|omega|(simp (disch:=omega) only [go_sem,seval]<;>omega))
 all_goals try (simp (disch:=omega) only [go_sem,seval])
 all_goals try simp
theorem realm_word (n:Nat) (hn:n<18446744073709551616):APure cx 32 [.int .u64 n] (.sl 1 false (bl (putl n 8)) .any):=by
 have hp:=wire_put n 8 (by decide) (by decide) (by simpa using hn)
 refine pure_fnK cxOk Tryz.func32 (fun _=>false) (fe32.q) (by kernel_rfl) (by dsimp only [Tryz.f32,go_sem,seval,liteO,Option.map,List.map];exact .mk _) ?_
 dsimp only [Tryz.f32,frame0,List.zipIdx,List.map,Nat.reduceAdd]
 repeat' (first|refine aC_seq ?_|refine aC_reg rfl ?_|refine aC_ret ?_|refine thenQ_normal ?_|refine aL_nil ?_|(apply aL_step;(·exact True.intro);(iterate 2 (·simp (disch:=omega) only [go_sem,seval,]<;>with_reducible rfl));(·simp only [go_sem]<;>with_reducible rfl))|(apply aL_pK cxG (hp);(iterate 2 (·simp (disch:=omega) only [go_sem,seval,]<;>with_reducible rfl));(·simp only [go_sem]<;>with_reducible rfl);(·simp))|fail)
 all_goals try (first|exact True.intro|exact not_false|omega|(simp (disch:=omega) only [go_sem,seval]<;>omega))
 all_goals try (simp (disch:=omega) only [go_sem,seval])
 all_goals try simp
theorem gran_put {S:St} {i j:Nat} {g b:List UInt8} {at':Nat} (hi:S[i]? = some (.cells (bl g) 44)) (hj:S[j]? = some (.cells [.int .i64 at'] 3)) (hij:i≠j) (hg:g.length=128) (hat:at'+b.length≤128) (hlt:at'<128) (nl:Bool) (tg:Tag) :
  ACall cx 137 [.sl 1 nl (bl b) tg,.ptr j 0,.ptr i 0] S (.tup []) ((S.set i (.cells (putCells (bl g) at' (bl b)) 44)).set j (.cells [.int .i64 (at'+b.length:Nat)] 3)):=by
 have hi':i<S.length:=(List.getElem?_eq_some_iff.1 hi).1
 have hj':j<S.length:=(List.getElem?_eq_some_iff.1 hj).1
 have hji:j≠i:=Ne.symm hij
 have h1:(bl g).length=128:=by rw [length_bl];exact hg
 have h2:(bl b).length=b.length:=length_bl b
 have h3:¬ ((at':Nat):Int)<0:=by omega
 have h4:((at':Nat):Int)≤128:=by omega
 have h5:(bl b).take (128-at')=bl b:=List.take_of_length_le (by omega)
 have h6:min b.length (128-at')=b.length:=by omega
 refine acall_fnK cxOk Tryz.func137 (fun _=>false) (fe137.q) (by kernel_rfl) (by dsimp only [Tryz.f137,go_sem,seval,liteO,Option.map,List.map];exact .mk _) ?_
 dsimp only [Tryz.f137,frame0,List.zipIdx,List.map,Nat.reduceAdd]
 refine aC_regB (U:=[(some 4,some 8)]) rfl [(some 4,j),(some 5,j)] ?_
 repeat' (first|refine aLB_nil ?_|(apply aLB_step;(·exact True.intro);(·exact (by intro h;cases h));(·rfl);(·simp (disch:=omega) only [go_sem,seval]);(·simp (disch:=omega) only [go_sem,seval,hi,hj,h1,h2,h5,h6]<;>with_reducible rfl);(·simp only [go_sem]<;>with_reducible rfl);(·(intro b hb;first|(cases hb;done)|(simp (disch:=omega) only [loadBox,go_sem,seval] at hb;(try injection hb with hb);subst hb;simp))))|(apply aLB_write;(·exact True.intro);(·rfl);(·rfl);(·simp (disch:=omega) only [go_sem,seval]);(·simp (disch:=omega) only [go_sem,seval,hi,hj,h1,h2,h5,h6]<;>with_reducible rfl);(·simp only [go_sem]<;>with_reducible rfl);(·first|(simp;done)|(intro e he _;simp only [List.mem_cons,List.not_mem_nil,or_false] at he;(repeat' (obtain he|he:=(he:_∨_)));all_goals (subst he;simp (disch:=omega) only [go_sem,seval,hj]))))|fail)
 repeat' (first|fail)
 all_goals try (first|exact True.intro|exact not_false|omega|(simp (disch:=omega) only [go_sem,seval]<;>omega))
 all_goals try (simp (disch:=omega) only [go_sem,seval])
 all_goals try simp
def mkr:List UInt8:=[114,101,99,0,0,0,0,0]
def gran (b:List UInt8):List UInt8:=mkr++b++List.replicate (120-b.length) 0
theorem length_gran {b:List UInt8} (h:b.length≤120):(gran b).length=128:=by simp [gran,mkr];omega
theorem gran_nil:gran []=[114,101,99,0,0,0,0,0,0,0,0,0,0,0,0,0,0,0,0,0,0,0,0,0,0,0,0,0,0,0,0,0,0,0,0,0,0,0,0,0,0,0,0,0,0,0,0,0,0,0,0,0,0,0,0,0,0,0,0,0,0,0,0,0,0,0,0,0,0,0,0,0,0,0,0,0,0,0,0,0,0,0,0,0,0,0,0,0,0,0,0,0,0,0,0,0,0,0,0,0,0,0,0,0,0,0,0,0,0,0,0,0,0,0,0,0,0,0,0,0,0,0,0,0,0,0,0,0]:=rfl
theorem gran_more {u b:List UInt8} (h:u.length+b.length≤120):putCells (bl (gran u)) (8+u.length) (bl b)=bl (gran (u++b)):=by
 have e:(bl mkr++(bl u++bl (List.replicate (120-u.length) 0))).drop (8+u.length+b.length)=bl (List.replicate (120-(u++b).length) 0):=by
  rw [← List.append_assoc,List.drop_append,List.drop_eq_nil_of_le (by simp [mkr]),List.nil_append]
  rw [show 8+u.length+b.length-(bl mkr++bl u).length=b.length by simp [mkr]<;>omega]
  unfold bl
  rw [← List.map_drop,List.drop_replicate]
  congr 2
  simp
  omega
 have e2:(bl mkr++(bl u++bl (List.replicate (120-u.length) 0))).take (8+u.length)=bl mkr++bl u:=by
  rw [← List.append_assoc,List.take_append_of_le_length (by simp [mkr]),List.take_of_length_le (by simp [mkr])]
 rw [putCells_eq _ _ _ (by rw [length_bl,length_bl,length_gran (by omega)];omega),length_bl]
 unfold gran
 simp only [← append_bl,List.append_assoc]
 rw [e,e2]
 simp only [List.append_assoc]
theorem params_granule {S:St} (hS:0<S.length) {vs:List AVal} {bs:List (List UInt8)} (hl:vs.length=bs.length) (hp:∀ k,k<vs.length→∃ nl tg,vs.getD k .any = .sl 1 nl (bl (bs.getD k [])) tg) (hb:bs.flatten.length≤100) (hv:vs.length≤1000) (nl:Bool) (tg:Tag) :
  ACall cx 114 [.str [114,101,99],.sl 1 nl vs tg] S (.agg (bl (gran bs.flatten))) S:=by
 have hb':bs.flatten.length≤120:=by omega
 have hfl:upTo bs vs.length=bs.flatten:=by unfold upTo;rw [hl,List.take_length]
 have hw:ACall cx 114 [.str [114,101,99],.sl 1 nl vs tg] S (.agg (bl (gran bs.flatten))) (S++[.cells (bl (gran bs.flatten)) 44,.cells [.int .i64 (8+bs.flatten.length:Nat)] 3]):=by
  refine acall_fnK cxOk Tryz.func114 (fun _=>false) (fe114.q) (by kernel_rfl) (by dsimp only [Tryz.f114,go_sem,seval,liteO,Option.map,List.map];exact .mk _) ?_
  dsimp only [Tryz.f114,frame0,List.zipIdx,List.map,Nat.reduceAdd]
  repeat' (first|refine aC_seq ?_|refine aC_reg rfl ?_|refine aC_block ?_|refine aC_loop ?_|refine thenQ_normal ?_|refine aL_nil ?_|(apply aL_step;(·exact True.intro);(iterate 2 (·simp (disch:=omega) only [go_sem,seval]<;>with_reducible rfl));(·simp only [go_sem]<;>with_reducible rfl))|fail)
  ·refine loop_rule (cxOk.wp _ _) (σ:=Nat) (fun k=>[(19,.int .i64 k),(18,.int .i64 vs.length),(17,.sl 1 nl vs tg),(6,.fn (.func 137) [] [.ptr (S.length+1) 0,.ptr S.length 0]),(4,.ptr S.length 0)])
    (fun k=>S++[.cells (bl (gran (upTo bs k))) 44,.cells [.int .i64 (8+(upTo bs k).length:Nat)] 3]) (fun k=>vs.length-k) (fun k=>k≤vs.length) 0 (GStep.refl _ _) ⟨Nat.zero_le _,Sub.of_all (by simp [Fr.get]),by simp [upTo,gran_nil];rfl⟩ ?_
   intro k hk
   have hle:=upTo_le bs k
   by_cases hlt:k<vs.length
   ·have hlt':((k:Nat):Int)<(vs.length:Int):=by omega
    have hs:=upTo_succ (bs:=bs) (k:=k) (by omega)
    have hle2:=upTo_le bs (k+1)
    obtain ⟨nl',tg',g⟩:=hp k hlt
    rw [hs,List.length_append] at hle2
    generalize bs.getD k []=b at *
    have hc:=gran_put (S:=S++[.cells (bl (gran (upTo bs k))) 44,.cells [.int .i64 (8+(upTo bs k).length:Nat)] 3]) (i:=S.length) (j:=S.length+1) (g:=gran (upTo bs k)) (b:=b) (at':=8+(upTo bs k).length) (by simp) (by simp) (by omega) (length_gran (by omega)) (by omega) (by omega) nl' tg'
    rw [gran_more (by omega)] at hc
    repeat' (first|refine aC_seq ?_|refine aC_reg rfl ?_|refine aC_block ?_|refine aC_skip ?_|refine thenQ_normal ?_|refine blockQ_normal ?_|refine aL_nil ?_|(apply aL_step;(·exact True.intro);(iterate 2 (·simp (disch:=omega) only [go_sem,seval,hlt',g,decide_true]<;>with_reducible rfl));(·simp only [go_sem]<;>with_reducible rfl))|(refine aC_condT ?_ ?_;(·simp (disch:=omega) only [go_sem,seval]))|(apply aL_acall (hc);(case hg=>(simp (disch:=omega) only [go_sem,seval]));(case hx=>(simp (disch:=omega) only [go_sem,seval]<;>with_reducible rfl));(case ha=>(simp (disch:=omega) only [go_sem,seval]<;>with_reducible rfl));(case he=>(with_reducible rfl));(case hp=>(rfl));(case hf=>(simp only [go_sem]<;>with_reducible rfl)))|fail)
    all_goals try (first|exact True.intro|exact not_false|omega|(simp (disch:=omega) only [go_sem,seval]<;>omega))
    all_goals try (exact ⟨k+1,by omega,Sub.of_all (by simp [Fr.get]),by simp [hs];omega,by omega⟩)
   ·have hk2:k=vs.length:=by omega
    subst hk2
    rw [hfl]
    have z1:(gran bs.flatten).take 128=gran bs.flatten:=List.take_of_length_le (by rw [length_gran hb'];exact Nat.le_refl _)
    have z2:(bl (gran bs.flatten)).take 128=bl (gran bs.flatten):=List.take_of_length_le (by rw [length_bl,length_gran hb'];exact Nat.le_refl _)
    repeat' (first|refine aC_seq ?_|refine aC_reg rfl ?_|refine aC_exit ?_|refine aC_ret ?_|refine thenQ_normal ?_|refine thenQ_exit ?_|refine blockQ_hit ?_|refine aL_nil ?_|(apply aL_step;(·exact True.intro);(iterate 2 (·simp (disch:=omega) only [go_sem,seval,z2,length_bl,length_gran hb',o_put0]<;>with_reducible rfl));(·simp only [go_sem]<;>with_reducible rfl))|(refine aC_condP (by simp (disch:=omega) only [go_sem,seval]<;>with_reducible rfl) ?_ ?_<;>(intro h;first|(exfalso;omega)|skip))|fail)
    all_goals try (first|exact True.intro|exact not_false|omega|(simp (disch:=omega) only [go_sem,seval]<;>omega))
    all_goals try (simp (disch:=omega) only [go_sem,seval,z2,length_bl,length_gran hb'])
  all_goals try (first|trivial|omega|simp)
 exact hw.keep cxG hS rfl (bels_bl _ _) fun i y hy=>.inl hy
end
end Go.Am
end
section
namespace Go.Am
open Go Go.Proofs
set_option maxHeartbeats 8000000
set_option maxRecDepth 100000
section
attribute [local irreducible] aC aL thenQ blockQ scopeQ ALoop AWp
def wsl (n:Nat):AVal:=.sl 1 false (bl (putl n 8)) .any
def rbs (p:Rp) (k:Nat):List (List UInt8):=putl p.pc 8::(p.regs.take k).map fun n=>putl n 8
def rvs (p:Rp) (k:Nat):List AVal:=wsl p.pc::(p.regs.take k).map wsl
theorem rvs_succ {p:Rp} {k:Nat} (h:k<p.regs.length):rvs p (k+1)=rvs p k++[wsl (p.regs.getD k 0)]:=by
 rw [show p.regs.getD k 0=p.regs[k] by simp only [List.getD,List.getElem?_eq_getElem h,Option.getD_some]]
 unfold rvs
 rw [List.take_succ_eq_append_getElem h,List.map_append]
 rfl
theorem length_rvs {p:Rp} (h:p.Ok) {k:Nat} (hk:k≤8):(rvs p k).length=k+1:=by simp [rvs,h.l];omega
theorem length_rbs {p:Rp} (h:p.Ok) {k:Nat} (hk:k≤8):(rbs p k).length=k+1:=by simp [rbs,h.l];omega
theorem rvs_get {p:Rp} (k:Nat) (j:Nat) (hj:j<(rvs p k).length):(rvs p k).getD j .any = .sl 1 false (bl ((rbs p k).getD j [])) .any:=by
 cases j with
 |zero=>rfl
 |succ j =>
  have h:j<(p.regs.take k).length:=by simpa [rvs] using hj
  show ((p.regs.take k).map wsl).getD j .any = .sl 1 false (bl (((p.regs.take k).map fun n=>putl n 8).getD j [])) .any
  generalize p.regs.take k=l at h
  have h1:j<(l.map wsl).length:=by rw [List.length_map];exact h
  have h2:j<(l.map fun n=>putl n 8).length:=by rw [List.length_map];exact h
  simp only [List.getD,List.getElem?_eq_getElem h1,List.getElem?_eq_getElem h2,Option.getD_some,List.getElem_map]
  rfl
def recB (p:Rp):List UInt8:=(rbs p 8).flatten++(if p.run then [1] else [])
def recG (p:Rp):List UInt8:=gran (recB p)
theorem length_recB {p:Rp} (h:p.Ok):(recB p).length≤73:=by
 have e:∀ l:List Nat,((l.map fun n=>putl n 8).flatten).length=8*l.length:=by
  intro l
  induction l with
  |nil=>rfl
  |cons n l ih=>rw [List.map_cons,List.flatten_cons,List.length_append,ih,putl_length,List.length_cons];omega
 have h8:((rbs p 8).flatten).length=72:=by
  unfold rbs
  rw [List.flatten_cons,List.length_append,e,putl_length,List.length_take,h.l]
  rfl
 unfold recB
 rw [List.length_append,h8]
 split<;>simp
theorem length_recG {p:Rp} (h:p.Ok):(recG p).length=128:=length_gran (by have:=length_recB h;omega)
theorem rp_one (p:Rp):∀ c∈rpC p,c.one=true:=fun c hc=>by
 unfold rpC at hc
 simp only [List.mem_cons,List.mem_append,List.not_mem_nil,or_false] at hc
 rcases hc with rfl|hc|rfl
 ·rfl
 ·obtain ⟨y,_,rfl⟩:=List.mem_map.1 hc;rfl
 ·rfl
theorem wl_drop {l:List Nat} (r:List AVal) {k:Nat} (h:k<l.length):((wl l++r).drop k).take 1=[.int .u64 (l.getD k 0:Nat)]:=by
 have hk:k<(wl l).length:=by simpa [wl] using h
 rw [List.drop_append_of_le_length (by omega),List.drop_eq_getElem_cons hk]
 simp [wl,List.getD,h]
theorem wl_drop8 {l:List Nat} (r:List AVal) (n:Nat) (h:l.length=8):(wl l++r).drop (n+8)=r.drop n:=by
 rw [List.drop_append,List.drop_eq_nil_of_le (by simp [wl,h])]
 simp [wl,h]
@[simp] theorem closed_rp (p:Rp):(∀ x,x∈rpC p→Closed x)↔True:=⟨fun _=>trivial,fun _ c hc=>by
 unfold rpC at hc
 simp only [List.mem_cons,List.mem_append,List.not_mem_nil,or_false] at hc
 rcases hc with rfl|hc|rfl
 ·simp
 ·obtain ⟨y,_,rfl⟩:=List.mem_map.1 hc;simp
 ·simp⟩
theorem params_rec {S:St} (hS:0<S.length) (p:Rp) (hp:p.Ok):ACall cx 95 [.agg (rpC p)] S (.agg (bl (recG p))) S:=by
 have hl:=hp.l
 have hrl:=length_rpC hp
 have hro:=rp_one p
 have hw0:=params_word p.pc hp.p
 have hB:=length_recB hp
 have j1:∀ (c:AVal) (r:List AVal) (k:Nat),k<p.regs.length→((c::(wl p.regs++r)).drop (1+k)).take 1=[.int .u64 (p.regs.getD k 0:Nat)]:=fun c r k h=>by
  rw [Nat.add_comm,List.drop_succ_cons]
  exact wl_drop (l:=p.regs) r h
 have j2:=fun (r:List AVal) (n:Nat)=>wl_drop8 (l:=p.regs) r n hl
 have j3:(wl p.regs).length=8:=by simp [wl,hl]
 have j4:(rpC p).take 10=rpC p:=List.take_of_length_le (by omega)
 have h0:rvs p 0=[wsl p.pc]:=rfl
 have hf:∀ (vs:List AVal) (bs:List (List UInt8)) (nl:Bool) (tg:Tag) (R:St),vs.length=bs.length→(∀ k,k<vs.length→∃ nl tg,vs.getD k .any = .sl 1 nl (bl (bs.getD k [])) tg)→bs.flatten.length≤100→vs.length≤1000→ACall cx 114 [.str [114,101,99],.sl 1 nl vs tg] (S++R) (.agg (bl (gran bs.flatten))) (S++R) :=
  fun vs bs nl tg R h1 h2 h3 h4=>params_granule (S:=S++R) (by simp;omega) h1 h2 h3 h4 nl tg
 have e1:=length_rvs hp (Nat.le_refl 8)
 have e2:=length_rbs hp (Nat.le_refl 8)
 have hfin:∀ R:St,ACall cx 114 [.str [114,101,99],.sl 1 false (if p.run then rvs p 8++[.sl 1 false [.int .u8 1] .full] else rvs p 8) (.grow (S.length+2))] (S++R) (.agg (bl (recG p))) (S++R):=fun R=>by
  have e:recG p=gran ((if p.run then rbs p 8++([[1]]:List (List UInt8)) else rbs p 8).flatten):=by
   unfold recG recB
   split<;>simp
  rw [e]
  refine hf _ _ _ _ R ?_ ?_ ?_ ?_
  ·split<;>simp [e1,e2]
  ·intro k hk
   split at hk
   ·rename_i hr
    rw [if_pos hr,if_pos hr]
    rw [List.length_append,List.length_singleton] at hk
    by_cases hk2:k<(rvs p 8).length
    ·refine ⟨false,.any,?_⟩
     rw [show (rvs p 8++[AVal.sl 1 false [.int .u8 1] .full]).getD k .any=(rvs p 8).getD k .any by simp [List.getD,List.getElem?_append_left hk2],rvs_get 8 k hk2,show (rbs p 8++([[1]]:List (List UInt8))).getD k []=(rbs p 8).getD k [] by simp [List.getD,List.getElem?_append_left (show k<(rbs p 8).length by omega)]]
    ·have hk3:k=9:=by omega
     subst hk3
     refine ⟨false,.full,?_⟩
     rw [show (rvs p 8++[AVal.sl 1 false [.int .u8 1] .full]).getD 9 .any = .sl 1 false [.int .u8 1] .full by simp [List.getD,List.getElem?_append_right,e1],show (rbs p 8++([[1]]:List (List UInt8))).getD 9 []=[1] by simp [List.getD,List.getElem?_append_right,e2]]
     rfl
   ·rename_i hr
    rw [if_neg hr,if_neg hr]
    exact ⟨false,.any,rvs_get 8 k hk⟩
  ·have:(if p.run then rbs p 8++([[1]]:List (List UInt8)) else rbs p 8).flatten=recB p:=by unfold recB;split<;>simp
   rw [this];omega
  ·split<;>simp [e1]
 have hw:ACall cx 95 [.agg (rpC p)] S (.agg (bl (recG p))) (S++[.cells (rpC p) 47,.cells (bl (recG p)) 44,.grow (if p.run then 10 else 9) 1 94]):=by
  have r1:=length_recG hp
  have r2:(recG p).take 128=recG p:=List.take_of_length_le (by omega)
  unfold rpC at *
  refine oA lq95 ?_
  have F:=@j4
  repeat' (first|refine st1 F hw0 ?_|(refine cp F ?_ ?_<;>intro h)|refine zT F ?_ ?_)
  ·refine loop_rule (cxOk.wp _ _) (σ:=Nat) (fun k=>[(9,.int .i64 k),(3,.sl 1 false (rvs p k) (.grow (S.length+2))),(2,.ptr (S.length+1) 0),(1,.ptr S.length 0)])
    (fun k=>S++[.cells (.int .u64 p.pc::(wl p.regs++[.bool p.run])) 47,.cells (bl (List.replicate 128 0)) 44,.grow (k+1) 1 94]) (fun k=>8-k) (fun k=>k≤8) 0 (GStep.full 3 94 rfl) ⟨Nat.zero_le _,Sub.of_all (by simp [Fr.get,frame0,h0,wsl]),by first|(simp;done)|(simp;rfl)|rfl⟩ ?_
   intro k hk
   by_cases hlt:k<8
   ·have hlt':((k:Nat):Int)<8:=by omega
    have hwk:=params_word (p.regs.getD k 0) (by
     rw [show p.regs.getD k 0=p.regs[k]'(by omega) by simp [List.getD,show k<p.regs.length by omega]]
     exact hp.w _ (List.getElem_mem _))
    have hs:=rvs_succ (p:=p) (k:=k) (by omega)
    have hsl:=length_rvs hp (k:=k) (by omega)
    have hkl:k<p.regs.length:=by omega
    have jk:=fun c r=>j1 c r k hkl
    generalize p.regs.getD k 0=v at hwk hs jk
    have F:=(pk5 @hlt' @jk @j2 @j3 @hsl)
    repeat' (first|refine st1 F hwk ?_|(refine cp F ?_ ?_<;>intro h))
    all_goals try exact cl F
    all_goals try (exact ⟨k+1,by omega,Sub.of_all (by simp [Fr.get,hs,wsl]),by simp,by omega⟩)
    all_goals try simp
    all_goals try omega
   ·have hk2:k=8:=by omega
    subst hk2
    cases hr:p.run
    all_goals
     rw [hr] at hfin
     simp only [if_true,if_false,Bool.false_eq_true] at hfin ⊢
     exact wk1 (pk8 @j2 @j3 @hr @e1 @length_bl @r1 @r2 @o_put0) hfin
  all_goals try (first|trivial|omega|(simp;done))
  all_goals try simp
  all_goals (rintro c (hc|rfl);(obtain ⟨y,_,rfl⟩:=List.mem_map.1 hc;rfl);rfl)
 exact hw.keep cxG hS rfl (bels_bl _ _) fun i y hy=>.inl hy
def Rp.May (p:Rp):Prop:=p.pc%8=0
instance (p:Rp):Decidable p.May:=inferInstanceAs (Decidable (p.pc%8=0))
theorem params_mayRec (p:Rp) (hp:p.Ok):APure cx 94 [.agg (rpC p)] (.bool (decide p.May)):=by
 have j3:=hp.l
 have hro:=rp_one p
 have hrl:=length_rpC hp
 have hm:decide p.May=decide (((p.pc:Nat):Int)%8=0):=by
  unfold Rp.May
  exact decide_eq_decide.2 (by omega)
 rw [hm]
 unfold rpC at *
 refine oP lq94 ?_
 have F:=True.intro
 repeat' (first|refine st F ?_|(refine cp F ?_ ?_<;>intro h)|refine zT F ?_ ?_)
 all_goals try exact cl True.intro
 all_goals try (simp (disch:=first|omega|(simp only [go_sem];omega)) only [go_sem,seval,reduceCtorEq])
 all_goals try simp
 all_goals (rintro c (hc|rfl);(obtain ⟨y,_,rfl⟩:=List.mem_map.1 hc;rfl);rfl)
theorem params_recBytes {S:St} (hS:0<S.length) (p:Rp) (hp:p.Ok) (hm:p.May):ACall cx 70 [.agg (rpC p)] S (.tup [.agg (bl (recG p)),.int .i64 0]) S:=by
 have h1:=params_mayRec p hp
 have h2:=fun R:St=>params_rec (S:=S++R) (by simp;omega) p hp
 have hro:=rp_one p
 have hrl:=length_rpC hp
 have j4:(rpC p).take 10=rpC p:=List.take_of_length_le (by omega)
 have r1:=length_recG hp
 have r2:(recG p).take 128=recG p:=List.take_of_length_le (by omega)
 rw [decide_eq_true hm] at h1
 have hw:ACall cx 70 [.agg (rpC p)] S (.tup [.agg (bl (recG p)),.int .i64 0]) (S++[.cells (rpC p) 47,.cells (bl (recG p)) 44]):=by
  refine oA lq70 ?_
  exact wk2 (pk6 @hrl @j4 @length_bl @r1 @r2 @o_put0) h1 h2
 exact hw.keep cxG hS rfl (by simp [bel,bels,bels_bl]) fun i y hy=>.inl hy
theorem params_recBytes_no {S:St} (hS:0<S.length) (p:Rp) (hp:p.Ok) (hm:¬ p.May):ACall cx 70 [.agg (rpC p)] S (.tup [.agg (bl (List.replicate 128 0)),.int .i64 2]) S:=by
 have h1:=params_mayRec p hp
 have hro:=rp_one p
 have hrl:=length_rpC hp
 have j4:(rpC p).take 10=rpC p:=List.take_of_length_le (by omega)
 rw [decide_eq_false hm] at h1
 obtain ⟨z,hz⟩ : ∃ z,z=List.replicate 128 (0:UInt8):=⟨_,rfl⟩
 rw [← hz]
 have hw:ACall cx 70 [.agg (rpC p)] S (.tup [.agg (bl z),.int .i64 2]) (S++[.cells (rpC p) 47,.cells (bl z) 44]):=by
  refine oA lq70 ?_
  have F:=(pk4 @hrl @j4 @length_bl @o_put0)
  repeat' (first|refine st1 F h1 ?_|(refine cp F ?_ ?_<;>intro h)|refine zT F ?_ ?_)
  all_goals try exact cl True.intro
  all_goals try (simp (disch:=first|omega|(simp only [go_sem];omega)) only [go_sem,seval,reduceCtorEq,hrl,j4])
  all_goals try simp
  all_goals try exact hro
  all_goals try (rw [hz];rfl)
  all_goals try simp [T5]
  all_goals try (subst hz;exact ⟨rfl,rfl⟩)
 exact hw.keep cxG hS rfl (by simp [bel,bels,bels_bl]) fun i y hy=>.inl hy
end
end Go.Am
end
