/- A new oracle, at any state; slices.Clone of draws, of what was asked. -/
import Derived.Test.YteemcehaekffeaaGreatO04
import Derived.Test.YteemcehaekffeaaGreatAmRange
import Derived.Test.YteemcehaekffeaaGreatAmEnd
import Derived.Test.YteemcehaekffeaaGreatO60
import Derived.Test.YteemcehaekffeaaGreatO20
import Derived.KernelRfl
import Derived.Test.YteemcehaekffeaaGreatO17
set_option linter.unusedVariables false
set_option linter.unusedSimpArgs false
section
namespace Go.Am
open Go Go.Proofs
set_option maxHeartbeats 8000000
set_option maxRecDepth 100000
section
attribute [local irreducible] aC aL thenQ blockQ scopeQ ALoop AWp
theorem closed_gls {α:Type} (enc:α→List AVal) (l:List α) (h:∀ x,∀ c∈enc x,Closed c):∀ x∈gls enc l,Closed x:=fun x hx=>by
 obtain ⟨y,_,rfl⟩:=List.mem_map.1 hx
 exact .agg _ (h y)
theorem closed_it (x:It):∀ c∈itC x,Closed c:=fun c hc=>by
 simp only [itC,qC,List.mem_append,List.mem_cons,List.not_mem_nil,or_false] at hc
 rcases hc with (rfl|hc|rfl|rfl)|hc
 ·exact .int _ _
 ·exact (closed_bl _).2 True.intro c hc
 ·exact .int _ _
 ·exact (closed_sl_any _ _ _).2 ((closed_bl _).2 True.intro)
 ·exact (closed_bl _).2 True.intro c hc
@[simp] theorem closed_gls_it (l:List It):(∀ x∈gls itC l,Closed x)↔True:=⟨fun _=>True.intro,fun _=>closed_gls itC l closed_it⟩
@[simp] theorem closed_gls_bl (l:List (List UInt8)):(∀ x∈gls bl l,Closed x)↔True:=⟨fun _=>True.intro,fun _=>closed_gls bl l fun x c hc=>(closed_bl x).2 True.intro c hc⟩
theorem clone_draws (nd:Bool) (dr:List (List UInt8)) (hn:nd=true→dr=[]) (hl:dr.length≤1000000):APure cx 62 [.sl 32 nd (gls bl dr) .any] (.sl 32 nd (gls bl dr) .any):=by
 cases nd
 ·refine oD lq62 ?_
  have F:=pk2 @length_gls True.intro
  refine st F ?_
  simp (disch:=first|omega|(simp only [go_sem];omega)) only [go_sem,seval]
  simp only [closed_sl_any]
  exact closed_gls _ dr fun x c hc=>(closed_bl x).2 True.intro c hc
 ·rw [hn rfl]
  refine oD lq62 ?_
  refine st True.intro ?_
  simp (disch:=first|omega|(simp only [go_sem];omega)) only [go_sem,seval]
  simp [gls,wk_nil]
theorem oracle_new_ {S:St} (h0:0<S.length) (id:Bool) {m:List UInt8} (hm:m.length=32) {nd:Bool} {dr:List (List UInt8)} (hn:nd=true→dr=[]) (hl:dr.length≤1000000) :
  ACall cx 24 [.bool id,.agg (bl m),.sl 32 nd (gls bl dr) .any] S (.ptr (S.length+2) 0) (S++[.cells (bl m) 34,.mp [] 0,.cells (.bool id::(bl m++[.sl 32 nd (gls bl dr) .any,.int .i64 0,.map (S.length+1),.sl 1 true [] .any])) 108]):=by
 have hC:=clone_draws nd dr hn hl
 refine oA lq24 ?_
 have ht:m.take 32=m:=List.take_of_length_le (by omega)
 have F:=pk5 @hm @ht @o_put0 @o_putP (o_put hm)
 refine st F ?_
 refine aC_regH (U:=[(some 8,some 10),(some 8,some 11)]) rfl [(some 8,S.length)] [(S.length+1,.mp [] 0)] 1 ?_
 refine sh1 F hC ?_
 refine hM_ (S.length+1) F ?_
 refine sh F ?_
 exact wk F
theorem clone_askedP (nl:Bool) (L:List It) (hn:nl=true→L=[]) (hl:L.length≤1000000):APure cx 51 [.sl 67 nl (gls itC L) .any] (.sl 67 nl (gls itC L) .any):=by
 cases nl
 ·refine oD lq51 ?_
  have F:=pk2 @length_gls True.intro
  refine st F ?_
  simp (disch:=first|omega|(simp only [go_sem];omega)) only [go_sem,seval]
  simp only [closed_sl_any]
  exact closed_gls _ L closed_it
 ·rw [hn rfl]
  refine oD lq51 ?_
  refine st True.intro ?_
  simp (disch:=first|omega|(simp only [go_sem];omega)) only [go_sem,seval]
  simp [gls,wk_nil]
def orT (m:List UInt8) (nd:Bool) (dr:List (List UInt8)) (u:Int) (k:Nat) (L:List It) (nl:Bool) (tg:Tag):List AVal:=.bool true::(bl m++[.sl 32 nd (gls bl dr) .any,.int .i64 u,.map k,.sl 67 nl (gls itC L) tg])
structure OrcG (S:St) (o k:Nat) (m:List UInt8) (nd:Bool) (dr:List (List UInt8)) (L:List It) (nl:Bool) (tg:Tag):Prop where
 bx:S[o]? = some (.cells (orT m nd dr L.length k L nl tg) 108)
 mp:S[k]? = some (.mp (knE L) L.length)
 m32:m.length=32
 dn:nd=true→dr=[]
 drl:dr.length≤1000000
 wf:WfL L
 dq:(L.map (·.q)).Nodup
 ln:nl=true→L=[]
 ll:L.length≤900000
variable {S:St} {o k:Nat} {m:List UInt8} {nd:Bool} {dr:List (List UInt8)} {L:List It} {nl:Bool} {tg:Tag}
theorem OrcG.lt (h:OrcG S o k m nd dr L nl tg):o<S.length∧k<S.length:=⟨(List.getElem?_eq_some_iff.1 h.bx).1,(List.getElem?_eq_some_iff.1 h.mp).1⟩
theorem OrcG.there (h:OrcG S o k m nd dr L nl tg):ACall cx 50 [.ptr o 0] S (.bool true) S:=by
 have hS:=h.bx
 have hm:=h.m32
 have ho:=h.lt.1
 have j1:=fun n q=>o_drop hm n q
 unfold orT at hS
 refine oA lq50 ?_
 exact wk (pk2 @hS @j1)
theorem OrcG.copy (h:OrcG S o k m nd dr L nl tg):ACall cx 16 [.ptr o 0] S (.ptr (S.length+2) 0) (S++[.cells (bl m) 34,.mp (knE L) L.length,.cells (orT m nd dr L.length (S.length+1) L nl .any) 108]):=by
 have hT:=h.there
 have ho:=h.lt
 have hN:=oracle_new_ (S:=S) (by omega) true h.m32 h.dn h.drl
 have hC:=clone_askedP nl L h.ln (by have:=h.ll;omega)
 have hS:=h.bx
 have hm:=h.m32
 have ht:m.take 32=m:=List.take_of_length_le (by omega)
 have j1:=fun n q=>o_drop h.m32 n q
 have j2:=fun q=>o_take h.m32 q
 unfold orT at hS
 refine ACallP.keep cxG (oQ lq16 ?_) (by omega) (by simp) ?_ ?_
 rotate_left
 ·exact blt_iff.2 (by simp)
 ·intro i x hx
  rcases Nat.lt_or_ge i S.length with hi|hi
  ·rw [List.getElem?_append_left hi] at hx;exact .inl hx
  ·right
   rw [List.getElem?_append_right hi] at hx
   have:=List.mem_of_getElem? hx
   simp only [List.mem_cons,List.not_mem_nil,or_false] at this
   rcases this with rfl|rfl|rfl
   ·simp [belB,bels_bl]
   ·exact belM_iff fun e he=>by obtain ⟨p,hp,rfl⟩:=List.mem_map.1 he;exact ⟨by simp [bel,keyC,bels,bels_app,bels_bl],rfl⟩
   ·simp [belB,orT,bels,bel,bels_bl,bels_app,bels_gls_bl,bels_gls_it,belT,blt_iff]
 have F:=pk8 @hS @j1 @j2 @ht @hm @o_put0 @o_putP (o_put hm)
 refine st2 F hT hN ?_
 have hbo:(S++[ABox.cells (bl m) 34,.mp [] 0,.cells (.bool true::(bl m++[.sl 32 nd (gls bl dr) .any,.int .i64 0,.map (S.length+1),.sl 1 true [] .any])) 108])[o]? = S[o]?:=List.getElem?_append_left ho.1
 refine aC_regB (U:=[(some 27,some 32)]) rfl [(some 27,o),(some 31,o)] ?_
 refine sb1 F hC ?_
 refine st F ?_
 have hll:=h.ll
 have hlg:=length_gls itC L
 have hbl:∀ (n:Nat) (L:List It),belB n (.mp (knE L) L.length)=true:=fun n L=>belM_iff fun e he=>by
  obtain ⟨p,hp,rfl⟩:=List.mem_map.1 he
  exact ⟨by simp [bel,keyC,bels,bels_app,bels_bl],rfl⟩
 refine loop_ruleE (cxOk.wp _ _) (cxG.wp _ _) (σ:=Nat) (fun j=>[(42,.int .i64 j),(41,.int .i64 L.length),(40,.sl 67 nl (gls itC L) .any),(3,.ptr (S.length+2) 0)])
  (fun j=>S++[.cells (bl m) 34,.mp (knE (L.take j)) j,.cells (orT m nd dr L.length (S.length+1) L nl .any) 108]) (fun j=>L.length-j) (fun j=>j≤L.length) (S.length+3) 0 ⟨Nat.zero_le _,?_,?_⟩ ?_ ?_ (fun j hj=>⟨fun i y hy=>?_,?_⟩) fun j hj=>?_
 ·exact Sub.of_all (by simp [Fr.get,hlg])
 ·simp [knE,orT]
 ·simp
 ·simp
 ·rcases Nat.lt_or_ge i S.length with hi|hi
  ·left
   rw [List.getElem?_append_left hi] at hy
   rw [List.getElem?_append_left hi]
   exact hy
  ·right
   rw [List.getElem?_append_right hi] at hy
   have:=List.mem_of_getElem? hy
   simp only [List.mem_cons,List.not_mem_nil,or_false] at this
   rcases this with rfl|rfl|rfl
   ·simp [belB,bels_bl]
   ·have:=hbl (S.length+3) (L.take j);rwa [List.length_take,Nat.min_eq_left hj] at this
   ·simp [belB,orT,bels,bel,bels_bl,bels_app,bels_gls_bl,bels_gls_it,belT,blt_iff]
 ·simp [belF,bel,bels_gls_it,belT,blt_iff]
 have hwf:=h.wf
 have hdq:=h.dq
 rcases Nat.lt_or_ge j L.length with hjl|hjl
 ·have hjl':((j:Nat):Int)<(L.length:Int):=by omega
  have hg:(gls itC L).getD j .any = .agg (itC L[j]):=by simp [List.getD,gls,hjl]
  have hq:(L.take j).findIdx? (fun i=>decide (i.q=L[j].q))=none:=by
   rw [List.findIdx?_eq_none_iff]
   intro x hx
   obtain ⟨a,ha,rfl⟩:=List.getElem_of_mem hx
   rw [List.length_take] at ha
   rw [decide_eq_false_iff_not,List.getElem_take]
   intro e
   have h1:(L.map (·.q))[a]? = (L.map (·.q))[j]?:=by simp only [List.getElem?_map,List.getElem?_eq_getElem (show a<L.length by omega),List.getElem?_eq_getElem hjl,Option.map_some,e]
   have:=(List.getElem?_inj (by simp;omega) hdq).1 h1
   omega
  have hta:L.take (j+1)=L.take j++[L[j]]:=by rw [List.take_add_one,List.getElem?_eq_getElem hjl];rfl
  obtain ⟨w1,w2⟩:=hwf L[j] (List.getElem_mem hjl)
  have hwt:WfL (L.take j):=fun x hx=>hwf x (List.mem_of_mem_take hx)
  have hlt:(L.take j).length=j:=by rw [List.length_take];omega
  have hset:=fun c=>set_miss hwt w1 hq (.int .i64 j) c
  have hkn:=knE_app (L.take j) L[j]
  rw [← hta,hlt] at hkn
  have hko:=qkeys_kn hwt L[j].q w1
  generalize L[j]=it at *
  have hi:itC it = .int .i64 it.q.k::(bl it.q.key++(.int .i64 it.q.dom :: .sl 1 it.nl (bl it.q.data) .any::bl it.d)):=by simp [itC,qC]
  rw [hi] at hg
  have j3:=fun n q=>o_drop w1 n q
  have j4:=fun q=>o_take w1 q
  unfold orT
  have h66:(bl it.q.key++(.int .i64 it.q.dom :: .sl 1 it.nl (bl it.q.data) .any::bl it.d)).take 66=bl it.q.key++(.int .i64 it.q.dom :: .sl 1 it.nl (bl it.q.data) .any::bl it.d):=List.take_of_length_le (by simp [w1,w2])
  have h1:(∀ x∈bl it.q.key++(AVal.int .i64 it.q.dom :: .sl 1 it.nl (bl it.q.data) .any::bl it.d),x.one=true)=True:=eq_true fun x hx=>by
   simp only [List.mem_append,List.mem_cons] at hx
   rcases hx with hx|rfl|rfl|hx
   ·exact bl_one _ _ hx
   ·rfl
   ·rfl
   ·exact bl_one _ _ hx
  have kl:=key_len w1
  have kt:(keyC it.q).take 35=keyC it.q:=List.take_of_length_le (by omega)
  have ko:=key_one it.q
  have ko':(∀ x∈keyC it.q,x.one=true)=True:=eq_true ko
  have hz:(.int .i64 it.q.k::(bl it.q.key++[.int .i64 it.q.dom,.str it.q.data]))=keyC it.q:=rfl
  have F:=pk12 @j1 @hm @hg @hjl' @w1 @w2 @j3 @j4 @o_put0 @hset @hlg (pk8 @o_putP (o_put hm) h1 h66 hz kl kt (pk2 (o_put w1) ko'))
  refine st F ?_
  refine mUT F ?_ ?_
  rotate_left
  ·exact hko
  refine st F ?_
  refine ⟨j+1,hjl,Sub.of_all (by simp [Fr.get]),?_,by omega⟩
  rw [hkn]
  rw [List.take_append,List.take_of_length_le (by omega),show S.length+3-S.length=3 by omega]
  simp
 ·have:j=L.length:=by omega
  subst this
  rw [List.take_length]
  have F:=hlg
  refine st F ?_
  simp only [aRes,go_sem]
  exact ⟨[],by simp⟩
end
end Go.Am
end
section
namespace Go.Am
open Go Go.Proofs
set_option maxHeartbeats 8000000
set_option maxRecDepth 100000
section
attribute [local irreducible] aC aL thenQ blockQ scopeQ ALoop AWp
variable {S:St} {o k:Nat} {m:List UInt8} {nd:Bool} {dr:List (List UInt8)} {L:List It} {nl:Bool} {tg:Tag}
def ocS (S:St) (m:List UInt8) (nd:Bool) (dr:List (List UInt8)) (L:List It) (nl:Bool):St:=[.cells (bl m) 34,.mp (knE L) L.length,.cells (orT m nd dr L.length (S.length+1) L nl .any) 108]
theorem realm_new_ (h:OrcG S o k m nd dr L nl tg):ACall cx 25 [.ptr o 0] S (.ptr (S.length+4) 0) (S++ocS S m nd dr L nl++[.mp [] 0,.cells [.ptr o 0,.map (S.length+3),.int .u64 0] 90]):=by
 have hC:=h.copy
 change ACall cx _ _ _ _ (S++ocS S m nd dr L nl) at hC
 have hl:(ocS S m nd dr L nl).length=3:=rfl
 generalize ocS S m nd dr L nl=J at *
 refine oA lq25 ?_
 have F:=hl
 refine wk1 F hC
variable {x a ow last:Nat} {rs:Rs} {c:Nat}
theorem realm_copy (h:RmsP S x a ow last rs c) (hb:BoOk rs c) (hl:∀ e∈rs,e.2.1.log.length≤1000000) (hO:OrcG S o k m nd dr L nl tg) :
  ACall cx 15 [.ptr x 0,.ptr o 0] S (.ptr (S.length+4) 0) (S++ocS S m nd dr L nl++(.mpx (rmX (srt rs)) rs.length::[.cells [.ptr o 0,.map (S.length+3),.int .u64 last] 90])):=by
 have hN:=realm_new_ hO
 have hT:=fun R:St=>realm_there (h.more R)
 have hbx:=h.bx
 have hmp:=h.mp
 have ho:=h.lt
 have ho2:=hO.lt
 have hJl:(ocS S m nd dr L nl).length=3:=rfl
 have hJb:∀ n,S.length+3≤n→∀ y∈ocS S m nd dr L nl,belB n y=true:=fun n hn y hy=>by
  unfold ocS at hy
  simp only [List.mem_cons,List.not_mem_nil,or_false] at hy
  rcases hy with rfl|rfl|rfl
  ·simp [belB,bels_bl]
  ·exact belM_iff fun e he=>by obtain ⟨p,hp,rfl⟩:=List.mem_map.1 he;exact ⟨by simp [bel,keyC,bels,bels_app,bels_bl],rfl⟩
  ·have:Nat.blt (S.length+1) n=true:=blt_iff.2 (by omega)
   simp [belB,orT,bels,bel,bels_bl,bels_app,bels_gls_bl,bels_gls_it,belT,this]
 generalize ocS S m nd dr L nl=J at *
 have hJs:∀ (T:St) (i n:Nat) (y:ABox),S.length+3≤n→i<(S++J).length→(S++J++T)[i]? = some y→S[i]? = some y∨belB n y=true:=fun T i n y hn hi hy=>by
  rw [List.getElem?_append_left hi] at hy
  rcases Nat.lt_or_ge i S.length with hi2|hi2
  ·rw [List.getElem?_append_left hi2] at hy;exact .inl hy
  ·rw [List.getElem?_append_right hi2] at hy
   exact .inr (hJb n hn y (List.mem_of_getElem? hy))
 refine ACallP.mpx cxG (A:=S++J) (B:=[.cells [.ptr o 0,.map (S.length+3),.int .u64 last] 90]) ?_ (by simp only [List.length_append];omega) (by omega) ?_ ?_
 rotate_left
 ·exact blt_iff.2 (by simp only [List.length_append,List.length_cons,List.length_nil];omega)
 ·intro i y hy
  rcases Nat.lt_or_ge i (S++J).length with hi|hi
  ·exact hJs _ i _ y (by simp only [List.length_append,List.length_cons,List.length_nil];omega) hi hy
  ·right
   rw [List.getElem?_append_right hi] at hy
   have:=List.mem_of_getElem? hy
   simp only [List.mem_cons,List.not_mem_nil,or_false] at this
   rcases this with rfl|rfl
   ·exact belP_iff fun e he=>by obtain ⟨p,hp,rfl⟩:=List.mem_map.1 he;exact ⟨rfl,bels_rmC _ _⟩
   ·simp only [belB,bels,bel,List.length_append,List.length_cons,List.length_nil,Bool.and_true,Bool.and_eq_true];exact ⟨blt_iff.2 (by omega),blt_iff.2 (by omega)⟩
 have F:=pk3 @hbx @hmp @hJl
 refine oQ lq15 ?_
 refine st2 F hN hT ?_
 refine zRg F ?_
 refine st F ?_
 refine loop_ruleE (cxOk.wp _ _) (cxG.wp _ _) (σ:=Rs) (fun _=>[(21,.ptr (S.length+5) 0),(5,.ptr (S.length+4) 0),(0,.ptr x 0)]) (fun q=>S++J++[.mp (rmE (reb q)) q.length,.cells [.ptr o 0,.map (S.length+3),.int .u64 0] 90,.iter (some a) c (q.map (·.2.2)) c]) (fun q=>rs.length-q.length) (AllJ rs) (S.length+6) []
  ⟨⟨fun _ h=>(by cases h),by simp⟩,?_,?_⟩ ?_ ?_ (fun q hq=>⟨fun i y hy=>?_,?_⟩) fun q hq=>?_
 ·exact Sub.of_all (by simp [Fr.get,hJl])
 ·simp [reb,rmE,hJl]
 ·simp [hJl]
 ·simp;omega
 ·rcases Nat.lt_or_ge i (S++J).length with hi|hi
  ·rcases hJs _ i (S.length+6) y (by omega) hi hy with k|k
   ·left
    rw [List.append_assoc,List.append_assoc,List.getElem?_append_left (List.getElem?_eq_some_iff.1 k).1]
    exact k
   ·exact .inr k
  ·right
   rw [List.getElem?_append_right hi] at hy
   have:=List.mem_of_getElem? hy
   simp only [List.mem_cons,List.not_mem_nil,or_false] at this
   rcases this with rfl|rfl|rfl
   ·exact belM_rm _ _
   ·simp only [belB,bels,bel,Bool.and_true,Bool.and_eq_true];exact ⟨blt_iff.2 (by omega),blt_iff.2 (by omega)⟩
   ·exact blt_iff.2 (by omega)
 ·simp only [belF,bel,Bool.and_true,Bool.and_eq_true];exact ⟨blt_iff.2 (by omega),blt_iff.2 (by omega),blt_iff.2 (by omega)⟩
 have hlen:=hq.le
 refine aC_seq ?_
 refine aC_nxt (k:=S.length+5) (mi:=a) (since:=c) (last:=c) (clock:=c) (seen:=q.map (·.2.2)) (es:=rmE rs) (ev F) (ev F) (ev F) (by intro j h;cases h;decide) ?_ (fun hall=>?_) fun e he hn=>?_
 ·rcases q with _|⟨e,q⟩
  ·exact .inl rfl
  ·exact .inr (.inr ⟨_,List.mem_map.2 ⟨e,hq.sub e (List.mem_cons_self ..),rfl⟩,hb.lt e (hq.sub e (List.mem_cons_self ..))⟩)
 ·have hp:q.Perm rs:=hq.perm hb fun e he=>by
   by_cases k:e.2.2∈q.map (·.2.2)
   ·exact k
   ·have:=hall (.int .i64 e.1,.agg (rmC e.2.1),e.2.2) (List.mem_map.2 ⟨e,he,rfl⟩) k
    have:=hb.lt e he
    simp only at *
    omega
  refine st F ?_
  simp only [aRes,go_sem]
  exact ⟨rmE (reb q),[.iter (some a) c (q.map (·.2.2)) c],(by have:=reb_mx (hp.trans (srt_perm rs).symm);rw [srt_len] at this;exact this),by simp [hp.length_eq]⟩
 ·obtain ⟨e,her,rfl⟩:=List.mem_map.1 he
  have hfe:=rm_find hb.nb her
  have hro:=h.ok e her
  have i1:=length_rmC hro
  have i2:=rm_one e.2.1
  have i3:(rmC e.2.1).take 103=rmC e.2.1:=List.take_of_length_le (by omega)
  have F:=pk8 @hbx @hmp @hfe @i1 @i2 @i3 @o_put0 @hJl
  refine st F ?_
  refine zEn F ?_ (he:=fun _=>hfe)
  refine st F ?_
  have hD:=fun R:St=>realm_own (S:=S++R) (by simp;omega) e.2.1 hro (hl e her)
  have hnk:at? (reb q) e.1=none:=reb_none fun e' he' k=>hn (List.mem_map.2 ⟨e',he',by rw [inj_key hb (hq.sub e' he') her k]⟩)
  have hset:=set_new hnk
  refine aC_regB (U:=[(some 30,some 33)]) rfl [(some 30,S.length+4),(some 32,S.length+6)] ?_
  have F:=pk9 @hbx @hmp @hset @i1 @i2 @i3 @o_put0 @reb_len @hJl
  refine sb1 F hD ?_
  refine bU F ?_ ?_
  ·exact qkeys_rm _ _
  refine sb F ?_
  refine blockQ_normal (thenQ_normal ?_)
  have hle:=(hq.step her hn).le
  rw [List.length_append] at hle
  refine ⟨q++[e],hq.step her hn,Sub.of_all (by simp [Fr.get]),?_,?_⟩
  ·rw [reb_app,rmE_app,List.map_append,List.length_append]
   have hSJ:(S++J).length=S.length+3:=by rw [List.length_append,hJl]
   rw [← List.append_assoc,List.take_append,List.take_of_length_le (by omega),hSJ,show S.length+6-(S.length+3)=3 by omega]
   simp [rmE]
  ·simp only [List.length_append,List.length_singleton] at *;omega
end
end Go.Am
end
section
namespace Go.Am
open Go Go.Proofs
set_option maxHeartbeats 8000000
set_option maxRecDepth 100000
section
attribute [local irreducible] aC aL thenQ blockQ scopeQ ALoop AWp
variable {S:St} {o k:Nat} {m:List UInt8} {nd:Bool} {dr:List (List UInt8)} {L:List It} {nl:Bool} {tg:Tag}
theorem flatC_gls {α:Type} (enc:α→List AVal) (l:List α):flatC (gls enc l)=(l.map enc).flatten:=by simp [flatC,gls];rfl
def itR (L:List It):List AVal:=(L.map itC).flatten
theorem clone_askedW (tg:Tag) (nl:Bool) (hn:nl=true→L=[]) (h0:0<L.length) (hl:L.length≤1000000):ACall cx 51 [.sl 67 nl (gls itC L) tg] S (.ms S.length 67 L.length) (S++[.row (itR L) 114]):=by
 have:nl=false:=by cases nl with|false=>rfl|true=>rw [hn rfl] at h0;cases h0
 subst this
 refine oA lq51 ?_
 have F:=pk2 @length_gls True.intro
 have hsrc:srcC S 67 (.sl 67 false (gls itC L) tg)=(L.length,itR L):=by simp only [srcC,length_gls,flatC_gls];rfl
 dsimp only [frame0,List.zipIdx,List.map,Nat.reduceAdd]
 repeat (first|refine zQ F ?_ ?_ hsrc|refine one F ?_)
 ·exact cl F
 ·exact ⟨.inl rfl,h0,by unfold maxLen;omega,by show L.length*104≤_;omega⟩
theorem itR_len (h:WfL L):∀ y∈L.map itC,y.length=67:=fun y hy=>by
 obtain ⟨i,hi,rfl⟩:=List.mem_map.1 hy
 obtain ⟨w1,w2⟩:=h i hi
 simp [itC,qC,w1,w2]
theorem itR_length (h:WfL L):(itR L).length=L.length*67:=by
 unfold itR
 rw [flat_len (itR_len h),List.length_map]
theorem itR_get (h:WfL L) {j:Nat} (hj:j<L.length) {off n:Nat} (ho:off+n≤67):((itR L).drop (j*67+off)).take n=((itC L[j]).drop off).take n :=
 flat_take (itR_len h) (by simp [hj]) ho
theorem itR_dat (h:WfL L) {j:Nat} (hj:j<L.length):((itR L).drop (j*67+34)).take 1=[.sl 1 L[j].nl (bl L[j].q.data) .any]:=by
 rw [itR_get h hj (by decide)]
 obtain ⟨w1,w2⟩:=h _ (List.getElem_mem hj)
 have:itC L[j]=(.int .i64 L[j].q.k::(bl L[j].q.key++[.int .i64 L[j].q.dom]))++(.sl 1 L[j].nl (bl L[j].q.data) .any::bl L[j].d):=by simp [itC,qC]
 rw [this,List.drop_left' (by simp [w1])]
 rfl
theorem itR_put (h:WfL L) {j:Nat} (hj:j<L.length):putCells (itR L) (j*67+34) [.sl 1 L[j].nl (bl L[j].q.data) .any]=itR L:=by
 have hx:(L.map itC)[j]? = some (itC L[j]):=by simp [hj]
 unfold itR
 rw [flat_put (itR_len h) hx (by simp) (y:=itC L[j]) ?_]
 ·congr 1
  refine List.ext_getElem? fun k=>?_
  by_cases e:j=k
  ·subst e;rw [List.getElem?_set_self (by simpa using hj),hx]
  ·rw [List.getElem?_set_ne e]
 ·obtain ⟨w1,w2⟩:=h _ (List.getElem_mem hj)
  have:itC L[j]=(.int .i64 L[j].q.k::(bl L[j].q.key++[.int .i64 L[j].q.dom]))++(.sl 1 L[j].nl (bl L[j].q.data) .any::bl L[j].d):=by simp [itC,qC]
  rw [putCells_eq _ _ _ (by rw [this];simp [w1,w2]),this]
  have key:∀ (a:List AVal) (b:AVal) (r:List AVal),a.length=34→(a++b::r).take 34++([b]++(a++b::r).drop (34+[b].length))=a++b::r:=fun a b r h=>by
   rw [List.take_left' h,List.drop_append,List.drop_eq_nil_of_le (by simp [h]),h]
   simp
  have:=key (.int .i64 L[j].q.k::(bl L[j].q.key++[.int .i64 L[j].q.dom])) (.sl 1 L[j].nl (bl L[j].q.data) .any) (bl L[j].d) (by simp [w1])
  simpa using this
theorem OrcG.log (h:OrcG S o k m nd dr L nl tg) (hda:∀ i∈L,(i.nl=true→i.q.data=[])∧i.q.data.length≤1000000000) (h0:0<L.length):ACall cx 57 [.ptr o 0] S (.ms S.length 67 L.length) (S++[.row (itR L) 114]):=by
 have hT:=h.there
 have hll:=h.ll
 have hC:=clone_askedW (S:=S) tg nl h.ln h0 (by omega)
 have hS:=h.bx
 have hm:=h.m32
 have ho:=h.lt.1
 have j1:=fun n q=>o_drop h.m32 n q
 unfold orT at hS
 refine oW lq57 (bodyOk_of Tryz.func57 (by kernel_rfl)) ?_
 have F:=pk3 @hS @j1 @hm
 refine st2 F hT hC ?_
 refine loop_rule (cxOk.wp _ _) (σ:=Nat) (fun j=>[(15,.int .i64 j),(14,.int .i64 L.length),(3,.ms S.length 67 L.length)]) (fun _=>S++[.row (itR L) 114]) (fun j=>L.length-j) (fun j=>j≤L.length) 0 (GStep.refl _ _) ⟨Nat.zero_le _,Sub.of_all (by simp [Fr.get]),rfl⟩ fun j hj=>?_
 rcases Nat.lt_or_ge j L.length with hjl|hjl
 ·have hjl':((j:Nat):Int)<(L.length:Int):=by omega
  obtain ⟨d1,d2⟩:=hda L[j] (List.getElem_mem hjl)
  have hB:=clone_by L[j].nl L[j].q.data d1 d2
  have g1:=itR_dat h.wf hjl
  have g2:=itR_put h.wf hjl
  have g3:=itR_length h.wf
  have g4:j*67+67≤(itR L).length:=by rw [g3];omega
  have F:=pk5 @hjl' @hjl @g1 @g2 @g4
  refine st1 F hB ?_
  exact ⟨j+1,hjl,Sub.of_all (by simp [Fr.get]),rfl,by omega⟩
 ·have:j=L.length:=by omega
  subst this
  exact wk True.intro
end
end Go.Am
end
section
namespace Go.Am
open Go Go.Proofs
set_option maxHeartbeats 8000000
set_option maxRecDepth 100000
section
attribute [local irreducible] aC aL thenQ blockQ scopeQ ALoop AWp
variable {S:St} {L:List It}
theorem itR_q (h:WfL L) {j:Nat} (hj:j<L.length):((itR L).drop (j*67)).take 35=qC L[j].q L[j].nl:=by
 have:=itR_get h hj (off:=0) (n:=35) (by decide)
 rw [Nat.add_zero] at this
 rw [this]
 obtain ⟨w1,w2⟩:=h _ (List.getElem_mem hj)
 rw [List.drop_zero]
 exact List.take_left' (by simp [qC,w1])
theorem itR_d (h:WfL L) {j:Nat} (hj:j<L.length):((itR L).drop (j*67+35)).take 32=bl L[j].d:=by
 rw [itR_get h hj (by decide)]
 obtain ⟨w1,w2⟩:=h _ (List.getElem_mem hj)
 unfold itC
 rw [List.drop_left' (by simp [qC,w1])]
 exact List.take_of_length_le (by simp [w2])
theorem ref_SameLog {i:Nat} (hi:S[i]? = some (.row (itR L) 114)) (hw:WfL L) (hd:∀ x∈L,x.q.data.length≤1000000000) (hl:L.length≤900000) (nl:Bool) (tg:Tag) :
  ACall cx 56 [.ms i 67 L.length,.sl 67 nl (gls itC L) tg] S (.bool true) S:=by
 have hil:=(List.getElem?_eq_some_iff.1 hi).1
 refine oA lq56 ?_
 have F:=pk3 @hi @length_gls True.intro
 refine st F ?_
 refine loop_rule (cxOk.wp _ _) (σ:=Nat) (fun j=>[(5,.int .i64 j),(1,.sl 67 nl (gls itC L) tg),(0,.ms i 67 L.length)]) (fun _=>S) (fun j=>L.length-j) (fun j=>j≤L.length) 0 (GStep.refl _ _) ⟨Nat.zero_le _,Sub.of_all (by simp [Fr.get]),rfl⟩ fun j hj=>?_
 rcases Nat.lt_or_ge j L.length with hjl|hjl
 ·have hjl':((j:Nat):Int)<(L.length:Int):=by omega
  have hg:(gls itC L).getD j .any = .agg (itC L[j]):=by simp [List.getD,gls,hjl]
  obtain ⟨w1,w2⟩:=hw _ (List.getElem_mem hjl)
  have hdl:=hd _ (List.getElem_mem hjl)
  have g1:=itR_q hw hjl
  have g2:=itR_d hw hjl
  have g3:=itR_length hw
  have g4:j*67+67≤(itR L).length:=by rw [g3];omega
  have hsame:=ref_Same (S:=S) (by omega) L[j].q L[j].q L[j].nl w1 w1 hdl hdl (.inl ⟨L[j].nl,rfl⟩)
  have e1:qV L[j].q (.sl 1 L[j].nl (bl L[j].q.data) .any)=qC L[j].q L[j].nl:=rfl
  rw [show decide (L[j].q=L[j].q)=true from decide_eq_true rfl] at hsame
  have hq1:(itC L[j]).take 35=qC L[j].q L[j].nl:=List.take_left' (by simp [qC,w1])
  have hq2:((itC L[j]).drop 35).take 32=bl L[j].d:=by unfold itC;rw [List.drop_left' (by simp [qC,w1])];exact List.take_of_length_le (by simp [w2])
  have hq3:(itC L[j]).length=67:=by simp [itC,qC,w1,w2]
  simp only [e1] at hsame
  have F:=pk9 @hi @hjl' @hjl @hg @g1 @g2 @g4 @length_gls (pk5 hq1 hq2 hq3 w2 (aeqs_by (a:=L[j].d) (b:=L[j].d) rfl))
  refine st1 F hsame ?_
  refine zT F ?_ ?_
  rotate_left
  ·exact ⟨by kernel_rfl,by kernel_rfl,skbs_by (by simp [w2]),skbs_by (by simp [w2])⟩
  refine st F ?_
  exact ⟨j+1,hjl,Sub.of_all (by simp [Fr.get]),rfl,by omega⟩
 ·have:j=L.length:=by omega
  subst this
  exact wk True.intro
end
end Go.Am
end
