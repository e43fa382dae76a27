/- Realms at any state: what is measured. -/
import Derived.Test.YteemcehaekffeaaGreatO07
import Derived.Test.YteemcehaekffeaaGreatAmPost
set_option linter.unusedVariables false
set_option linter.unusedSimpArgs false
section
namespace Go.Am
open Go Go.Proofs
set_option maxHeartbeats 8000000
set_option maxRecDepth 100000
section
attribute [local irreducible] aC aL thenQ blockQ scopeQ ALoop AWp
section
variable {S:St} {o k l:Nat} {m:List UInt8} {nd:Bool} {dr:List (List UInt8)} {L:List It}
theorem OrcP.keepI (h:OrcP S o k l m nd dr L) {f:FuncId} {args:List AVal} {v:AVal} {J:St} (q:Qn) (nl:Bool) (hq:q.key.length=32) {i:Nat} {y:ABox} (hi:i<S.length) (hy:Go.Am.belB S.length y=true) (hw:ACall cx f args S v ((askS S o k l m nd dr L q nl).set i y++J)) (hr:bel S.length v=true) :
  ACall cx f args S v ((askS S o k l m nd dr L q nl).set i y):=by
 have hP:=h.ask q nl hq
 have hlen:=length_askS (S:=S) (o:=o) (k:=k) (l:=l) (m:=m) (nd:=nd) (dr:=dr) (L:=L) q nl
 refine hw.keep cxG (by omega) (by simpa using hlen) hr fun j x hx=>?_
 by_cases e0:j=i
 ·subst e0
  rw [List.getElem?_set_self (by omega)] at hx
  rw [← Option.some.inj hx]
  exact .inr hy
 ·rw [List.getElem?_set_ne (Ne.symm e0)] at hx
  by_cases e:j=o∨j=k∨j=l
  ·right
   rw [← hlen]
   exact hP.belB e hx
  ·rw [askS_ne q nl (by omega) (by omega) (by omega)] at hx
   exact .inl hx
def parB (r:Rm) (pg:Nat) (g:List UInt8):List UInt8:=r.meas++(putl pg 8++g)
def dataR (pg:Nat) (g:List UInt8):Rcd:=⟨2,zq,pg,g,⟨0,List.replicate 8 0,false⟩⟩
theorem dataR_ok (pg:Nat) {g:List UInt8} (hg:g.length=128):(dataR pg g).Ok:=⟨rfl,hg,rfl,fun x hx=>by
 rw [List.eq_of_mem_replicate hx];decide,(by decide:(0:Nat)<18446744073709551616)⟩
theorem do_data (h:OrcP S o k l m nd dr L) (hL:L.length≤900000) {i x xb pb gb a last pg:Nat} {r:Rm} {g:List UInt8} (hS:S[i]? = some (.cells (rmC r) 37)) (hr:r.Ok) (hn:r.nl=false) (hst:r.st=1) (hl:r.log.length≤900000)
  (hx:S[x]? = some (.cells [.ptr o 0,.map a,.int .u64 last] 90)) (hxb:S[xb]? = some (.cells [.ptr x 0] 25)) (hpb:S[pb]? = some (.cells [.int .i64 pg] 3)) (hgb:S[gb]? = some (.cells (bl g) 44)) (hg:g.length=128) (hp:pg<128)
  (no:i≠o) (nk:i≠k) (nll:i≠l) (xn:i≠x∧i≠xb∧i≠pb∧i≠gb) (xo:x≠o∧x≠k∧x≠l) (xbo:xb≠o∧xb≠k∧xb≠l) (pbo:pb≠o∧pb≠k∧pb≠l) (gbo:gb≠o∧gb≠k∧gb≠l) :
  ACall cx 59 [.ptr i 0,.ptr xb 0,.ptr pb 0,.ptr gb 0] S (.int .i64 0) ((askS S o k l m nd dr L (dgQ 2 (parB r pg g)) false).set i (.cells (rmC (grw r (askD dr L (dgQ 2 (parB r pg g))) (dataR pg g))) 37)):=by
 have hi:i<S.length:=(List.getElem?_eq_some_iff.1 hS).1
 have hix:x<S.length:=(List.getElem?_eq_some_iff.1 hx).1
 have hixb:xb<S.length:=(List.getElem?_eq_some_iff.1 hxb).1
 have hipb:pb<S.length:=(List.getElem?_eq_some_iff.1 hpb).1
 have higb:gb<S.length:=(List.getElem?_eq_some_iff.1 hgb).1
 have hrm:=length_rmC hr
 have hpart:∀ R:St,Parts (S++R) [.view i 4 32 32,.sl 1 false (bl (putl pg 8)) .any,.view gb 0 128 128] [r.meas,putl pg 8,g]:=fun R=>by
  refine Parts.more ⟨rfl,fun j hj=>?_⟩ R
  match j,hj with
  |0,_=>exact .inr ⟨i,4,32,_,_,by rw [show ([r.meas,putl pg 8,g].getD 0 []).length=32 from hr.m];rfl,hS,by
    show (List.drop 4 (rmC r)).take r.meas.length=bl r.meas
    rw [hr.m]
    exact o_take hr.m _,by rw [show ([r.meas,putl pg 8,g].getD 0 []).length=32 from hr.m,hrm];decide⟩
  |1,_=>exact .inl ⟨false,rfl⟩
  |2,_=>exact .inr ⟨gb,0,128,_,_,by rw [show ([r.meas,putl pg 8,g].getD 2 []).length=128 from hg];rfl,hgb,by
    show (List.drop 0 (bl g)).take g.length=bl g
    exact List.take_of_length_le (by simp),by rw [show ([r.meas,putl pg 8,g].getD 2 []).length=128 from hg,length_bl,hg];decide⟩
 have hfl:[r.meas,putl pg 8,g].flatten=parB r pg g:=by simp [parB]
 have hpl:(parB r pg g).length=168:=by simp [parB,hr.m,hg,putl_length]
 have hD:∀ R:St,ACall cx 30 [.ptr o 0,.int .i64 2,.sl 1 false [.view i 4 32 32,.sl 1 false (bl (putl pg 8)) .any,.view gb 0 128 128] .full] (S++R) (.tup [.agg (bl (askD dr L (dgQ 2 (parB r pg g)))),.int .i64 0]) (askS S o k l m nd dr L (dgQ 2 (parB r pg g)) false++R):=fun R=>by
  have:=oracle_digest (h.more R) hL (dom:=2) (by decide) (by decide) (hpart R) false .full (by simp) (by rw [hfl];omega) (by rw [hfl];omega)
  rw [hfl,askS_app h] at this
  exact this
 have hlen:=length_askS (S:=S) (o:=o) (k:=k) (l:=l) (m:=m) (nd:=nd) (dr:=dr) (L:=L) (dgQ 2 (parB r pg g)) false
 have hxl:=length_askD h (dgQ 2 (parB r pg g))
 have hne:=fun (j:Nat) (h1:j≠o) (h2:j≠k) (h3:j≠l)=>askS_ne (S:=S) (o:=o) (k:=k) (l:=l) (m:=m) (nd:=nd) (dr:=dr) (L:=L) (dgQ 2 (parB r pg g)) false h1 h2 h3
 have hW:=realm_word pg (by omega)
 have hcv:(((pg:Nat):Int)%18446744073709551616)=((pg:Nat):Int):=by omega
 refine h.keepI _ _ (by rfl) hi (bels_rmC _ _) (J:=[.cells (bl (askD dr L (dgQ 2 (parB r pg g)))) 34]) ?_ rfl
 generalize askS S o k l m nd dr L (dgQ 2 (parB r pg g)) false=S1 at *
 generalize askD dr L (dgQ 2 (parB r pg g))=d at *
 have s1:=(hne i no nk nll).trans hS
 have s2:=(hne x xo.1 xo.2.1 xo.2.2).trans hx
 have s3:=(hne xb xbo.1 xbo.2.1 xbo.2.2).trans hxb
 have s4:=(hne pb pbo.1 pbo.2.1 pbo.2.2).trans hpb
 have s5:=(hne gb gbo.1 gbo.2.1 gbo.2.2).trans hgb
 have hG:∀ (R:St) (u:AVal),ACall cx 60 [u,.ptr i 0,.agg (rdC (dataR pg g)),.agg (bl d),.int .i64 0] (S1++R) (.int .i64 0) (S1.set i (.cells (rmC (grw r d (dataR pg g))) 37)++R):=fun R u=>by
  rw [← List.set_append_left _ _ (by omega)]
  exact do_grown (by rw [List.getElem?_append_left (by omega)];exact s1) hr hn hl (dataR_ok pg hg) hxl u
 rw [show rdC (dataR pg g) = .int .i64 2::(bl [0,0,0,0,0,0,0,0,0,0,0,0,0,0,0,0,0,0,0,0,0,0,0,0,0,0,0,0,0,0,0,0]++(.int .i64 (pg:Nat)::(bl g++[.int .u64 0,.int .u64 0,.int .u64 0,.int .u64 0,.int .u64 0,.int .u64 0,.int .u64 0,.int .u64 0,.int .u64 0,.bool false]))) from rfl] at hG
 have e1:(bl d).length=32:=by rw [length_bl];exact hxl
 have e2:(bl d).take 32=bl d:=List.take_of_length_le (by omega)
 have e3:(bl g).length=128:=by rw [length_bl];exact hg
 have e4:(bl g).take 128=bl g:=List.take_of_length_le (by omega)
 generalize rmC (grw r d (dataR pg g))=rm2 at *
 clear hne hfl hpl hpart
 have j1:=fun n q=>o_drop hr.m n q
 have j2:=fun n q=>o_get hr.m n q
 have j3:=fun n q cs hh=>o_put hr.m n q cs hh
 have k1:=fun n q=>o_drop hr.k n q
 have k2:=fun n q=>o_get hr.k n q
 have k3:=fun n q cs hh=>o_put hr.k n q cs hh
 have t1:=fun n q=>o_drop hr.t n q
 have t2:=fun n q=>o_get hr.t n q
 have t3:=fun n q cs hh=>o_put hr.t n q cs hh
 have h1:=hr.m
 have h2:=hr.k
 have h3:=hr.t
 have j7:(bl r.meas).length=32:=by rw [length_bl];exact h1
 have k7:(bl r.key).length=32:=by rw [length_bl];exact h2
 have t7:(bl r.tree).length=32:=by rw [length_bl];exact h3
 unfold rmC at hS s1 hrm
 refine oA lq59 ?_
 refine st (pk12 @hS @j1 @j2 @j3 @k1 @k2 @k3 @t1 @t2 @t3 @j7 (pk9 @k7 @t7 @o_put0 @o_putP @hx @hxb @hpb @hgb @hst)) ?_
 refine aC_regH (U:=[(some 14,some 24),(some 17,some 24),(some 14,some 6),(some 17,some 6),(some 22,some 6)]) rfl [(some 14,xb),(some 17,x),(some 22,pb)] [(S.length,.cells (bl [0,0,0,0,0,0,0,0,0,0,0,0,0,0,0,0,0,0,0,0,0,0,0,0,0,0,0,0,0,0,0,0]) 34)] 1 ?_
 have F:=(pk12 @hS @j1 @j2 @j3 @k1 @k2 @k3 @t1 @t2 @t3 @j7 (pk12 @k7 @t7 @o_put0 @o_putP @hx @hxb @hpb @hgb @hcv @hlen @e1 (pk2 @e3 @repl_s)))
 repeat' (first|refine sh F ?_|(apply aLH_pure cxG (hW);(case hg=>(simp (disch:=first|omega|(simp only [go_sem];omega)) only [go_sem,seval,reduceCtorEq,hS,j1,j2,j3,k1,k2,k3,t1,t2,t3,j7,k7,t7,o_put0,o_putP,hx,hxb,hpb,hgb,hcv,hlen,e1,e3,List.replicate]));(case hx=>(simp (disch:=first|omega|(simp only [go_sem];omega)) only [go_sem,seval,reduceCtorEq,hS,j1,j2,j3,k1,k2,k3,t1,t2,t3,j7,k7,t7,o_put0,o_putP,hx,hxb,hpb,hgb,hcv,hlen,e1,e3,List.replicate]<;>with_reducible rfl));(case ha=>(simp (disch:=first|omega|(simp only [go_sem];omega)) only [go_sem,seval,reduceCtorEq,hS,j1,j2,j3,k1,k2,k3,t1,t2,t3,j7,k7,t7,o_put0,o_putP,hx,hxb,hpb,hgb,hcv,hlen,e1,e3,List.replicate]<;>with_reducible rfl));(case he=>(simp only [go_sem]<;>with_reducible rfl));(case hcl=>(simp));(case hf=>(simp only [go_sem]<;>with_reducible rfl)))|(apply aLH_callR hD [.hole];(case hp=>(rfl));(case hlen=>(first|assumption|(simp (disch:=first|omega|(simp only [go_sem];omega)) only [go_sem,seval,reduceCtorEq,hS,j1,j2,j3,k1,k2,k3,t1,t2,t3,j7,k7,t7,o_put0,o_putP,hx,hxb,hpb,hgb,hcv,hlen,e1,e3,List.replicate])));(case hT=>(first|rfl|(simp only [List.append_assoc,List.cons_append,List.nil_append];done)|(simp only [List.append_assoc,List.cons_append,List.nil_append];rfl)));(case hg=>(simp (disch:=first|omega|(simp only [go_sem];omega)) only [go_sem,seval,reduceCtorEq,hS,j1,j2,j3,k1,k2,k3,t1,t2,t3,j7,k7,t7,o_put0,o_putP,hx,hxb,hpb,hgb,hcv,hlen,e1,e3,List.replicate]));(case hx=>(simp (disch:=first|omega|(simp only [go_sem];omega)) only [go_sem,seval,reduceCtorEq,hS,j1,j2,j3,k1,k2,k3,t1,t2,t3,j7,k7,t7,o_put0,o_putP,hx,hxb,hpb,hgb,hcv,hlen,e1,e3,List.replicate]<;>with_reducible rfl));(case ha=>(simp (disch:=first|omega|(simp only [go_sem];omega)) only [go_sem,seval,reduceCtorEq,hS,j1,j2,j3,k1,k2,k3,t1,t2,t3,j7,k7,t7,o_put0,o_putP,hx,hxb,hpb,hgb,hcv,hlen,e1,e3,List.replicate]<;>with_reducible rfl));(case he=>(with_reducible rfl));(case hf=>(simp only [go_sem]<;>with_reducible rfl));(case hT'=>(first|(simp only [List.append_assoc,List.cons_append,List.nil_append];with_reducible rfl)|rfl));(case hHs=>(first|(simp;done)|(simp;omega)));(case hB=>(simp)))|refine hN_ S.length F ?_)
 exact wk1 (pk12 @hS @j1 @j2 @j3 @k1 @k2 @k3 @t1 @t2 @t3 @j7 (pk12 @k7 @t7 @o_put0 @o_putP @s1 @s2 @s3 @s4 @s5 @hlen @e1 (pk9 @e2 @e3 @e4 @put_z @hx @hxb @hpb @hgb @hcv))) hG
end
end
end Go.Am
end
section
namespace Go.Am
open Go Go.Proofs
set_option maxHeartbeats 8000000
set_option maxRecDepth 100000
section
attribute [local irreducible] aC aL thenQ blockQ scopeQ ALoop AWp
def recP (r:Rm) (p:Rp):List UInt8:=r.meas++recG p
def recR (p:Rp):Rcd:=⟨3,zq,0,List.replicate 128 0,p⟩
theorem recR_ok {p:Rp} (h:p.Ok):(recR p).Ok:=⟨rfl,rfl,h⟩
def grwR (r:Rm) (m:List UInt8) (d:Rcd):Rm:={ grw r m d with recs:=r.recs+1 }
theorem grwR_ok {r:Rm} (h:r.Ok) {m:List UInt8} (hm:m.length=32) {d:Rcd} (hd:d.Ok) (hn:r.nl=false):(grwR r m d).Ok:=by
 have:=grw_ok h hm hd hn
 exact ⟨this.m,this.k,this.t,this.l,this.n⟩
section
variable {S:St} {o k l:Nat} {m:List UInt8} {nd:Bool} {dr:List (List UInt8)} {L:List It}
theorem do_addrec (h:OrcP S o k l m nd dr L) (hL:L.length≤900000) {i x xb pb a last:Nat} {r:Rm} {p:Rp} (hS:S[i]? = some (.cells (rmC r) 37)) (hr:r.Ok) (hn:r.nl=false) (hst:r.st=1) (hl:r.log.length≤900000) (hrc:0≤r.recs∧r.recs≤900000)
  (hx:S[x]? = some (.cells [.ptr o 0,.map a,.int .u64 last] 90)) (hxb:S[xb]? = some (.cells [.ptr x 0] 25)) (hpb:S[pb]? = some (.cells (rpC p) 47)) (hp:p.Ok) (hm:p.May)
  (no:i≠o) (nk:i≠k) (nll:i≠l) (xn:i≠x∧i≠xb∧i≠pb) (xo:x≠o∧x≠k∧x≠l) (xbo:xb≠o∧xb≠k∧xb≠l) (pbo:pb≠o∧pb≠k∧pb≠l) :
  ACall cx 69 [.ptr i 0,.ptr pb 0,.ptr xb 0] S (.int .i64 0) ((askS S o k l m nd dr L (dgQ 3 (recP r p)) false).set i (.cells (rmC (grwR r (askD dr L (dgQ 3 (recP r p))) (recR p))) 37)):=by
 have hi:i<S.length:=(List.getElem?_eq_some_iff.1 hS).1
 have hix:x<S.length:=(List.getElem?_eq_some_iff.1 hx).1
 have hixb:xb<S.length:=(List.getElem?_eq_some_iff.1 hxb).1
 have hipb:pb<S.length:=(List.getElem?_eq_some_iff.1 hpb).1
 have hrm:=length_rmC hr
 have hG1:=length_recG hp
 have hpart:∀ R:St,Parts (S++[.cells (bl (recG p)) 44]++R) [.view i 4 32 32,.view S.length 0 128 128] [r.meas,recG p]:=fun R=>by
  refine Parts.more ⟨rfl,fun j hj=>?_⟩ R
  match j,hj with
  |0,_=>exact .inr ⟨i,4,32,_,_,by rw [show ([r.meas,recG p].getD 0 []).length=32 from hr.m];rfl,by rw [List.getElem?_append_left hi];exact hS,by
    show (List.drop 4 (rmC r)).take r.meas.length=bl r.meas
    rw [hr.m]
    exact o_take hr.m _,by rw [show ([r.meas,recG p].getD 0 []).length=32 from hr.m,hrm];decide⟩
  |1,_=>exact .inr ⟨S.length,0,128,_,_,by rw [show ([r.meas,recG p].getD 1 []).length=128 from hG1];rfl,(by rw [List.getElem?_append_right (Nat.le_refl _),Nat.sub_self];rfl),by
    show (List.drop 0 (bl (recG p))).take (recG p).length=bl (recG p)
    exact List.take_of_length_le (by simp),by rw [show ([r.meas,recG p].getD 1 []).length=128 from hG1,length_bl,hG1];decide⟩
 have hfl:[r.meas,recG p].flatten=recP r p:=by simp [recP]
 have hpl:(recP r p).length=160:=by simp [recP,hr.m,hG1]
 have hD:∀ R:St,ACall cx 30 [.ptr o 0,.int .i64 3,.sl 1 false [.view i 4 32 32,.view S.length 0 128 128] .full] (S++[.cells (bl (recG p)) 44]++R) (.tup [.agg (bl (askD dr L (dgQ 3 (recP r p)))),.int .i64 0]) (askS S o k l m nd dr L (dgQ 3 (recP r p)) false++[.cells (bl (recG p)) 44]++R):=fun R=>by
  have:=oracle_digest ((h.more [.cells (bl (recG p)) 44]).more R) hL (dom:=3) (by decide) (by decide) (hpart R) false .full (by simp) (by rw [hfl];omega) (by rw [hfl];omega)
  rw [hfl,askS_app (h.more _),askS_app h] at this
  exact this
 have hlen:=length_askS (S:=S) (o:=o) (k:=k) (l:=l) (m:=m) (nd:=nd) (dr:=dr) (L:=L) (dgQ 3 (recP r p)) false
 have hxl:=length_askD h (dgQ 3 (recP r p))
 have hne:=fun (j:Nat) (h1:j≠o) (h2:j≠k) (h3:j≠l)=>askS_ne (S:=S) (o:=o) (k:=k) (l:=l) (m:=m) (nd:=nd) (dr:=dr) (L:=L) (dgQ 3 (recP r p)) false h1 h2 h3
 have hB:=fun R:St=>params_recBytes (S:=S++R) (by simp;omega) p hp hm
 have hB0:=params_recBytes (S:=S) (by omega) p hp hm
 refine h.keepI _ _ (by rfl) hi (bels_rmC _ _) (J:=[.cells (bl (recG p)) 44,.cells (bl (askD dr L (dgQ 3 (recP r p)))) 34]) ?_ rfl
 generalize askS S o k l m nd dr L (dgQ 3 (recP r p)) false=S1 at *
 generalize askD dr L (dgQ 3 (recP r p))=d at *
 have s1:=(hne i no nk nll).trans hS
 have s2:=(hne x xo.1 xo.2.1 xo.2.2).trans hx
 have s3:=(hne xb xbo.1 xbo.2.1 xbo.2.2).trans hxb
 have s4:=(hne pb pbo.1 pbo.2.1 pbo.2.2).trans hpb
 have hlen2:(S1++[ABox.cells (bl (recG p)) 44]).length=(S++[ABox.cells (bl (recG p)) 44]).length:=by simp [hlen]
 have hG:∀ (R:St) (u:AVal),ACall cx 60 [u,.ptr i 0,.agg (rdC (recR p)),.agg (bl d),.int .i64 0] (S1++R) (.int .i64 0) (S1.set i (.cells (rmC (grw r d (recR p))) 37)++R):=fun R u=>by
  rw [← List.set_append_left _ _ (by omega)]
  exact do_grown (by rw [List.getElem?_append_left (by omega)];exact s1) hr hn hl (recR_ok hp) hxl u
 rw [show rdC (recR p) = .int .i64 3::(bl [0,0,0,0,0,0,0,0,0,0,0,0,0,0,0,0,0,0,0,0,0,0,0,0,0,0,0,0,0,0,0,0]++(.int .i64 0::(bl (List.replicate 128 0)++rpC p))) from rfl] at hG
 simp only [List.reduceReplicate] at hG
 have e1:(bl d).length=32:=by rw [length_bl];exact hxl
 have e2:(bl d).take 32=bl d:=List.take_of_length_le (by omega)
 have e3:(bl (recG p)).length=128:=by rw [length_bl];exact hG1
 have e4:(bl (recG p)).take 128=bl (recG p):=List.take_of_length_le (by omega)
 have e5:=length_rpC hp
 have e6:(rpC p).take 10=rpC p:=List.take_of_length_le (by omega)
 have e7:=fun n q cs hh=>o_put hxl n q cs hh
 have e8:=fun n q=>o_drop hxl n q
 have z8:putCells (bl (List.replicate 128 0)++[.int .u64 0,.int .u64 0,.int .u64 0,.int .u64 0,.int .u64 0,.int .u64 0,.int .u64 0,.int .u64 0,.int .u64 0,.bool false]) 128 (rpC p)=bl (List.replicate 128 0)++rpC p:=by
  rw [putCells_eq _ _ _ (by simp [e5])]
  simp [e5]
 simp only [List.reduceReplicate] at z8
 have p1:=rp_one p
 have q1:¬ r.recs+1<0:=by omega
 unfold grwR grw
 unfold grw at hG
 dsimp only at hG ⊢
 generalize r.log++[recR p]=lg at *
 clear hne hfl hpl hpart
 have j1:=fun n q=>o_drop hr.m n q
 have j2:=fun n q=>o_get hr.m n q
 have j3:=fun n q cs hh=>o_put hr.m n q cs hh
 have k1:=fun n q=>o_drop hr.k n q
 have k2:=fun n q=>o_get hr.k n q
 have k3:=fun n q cs hh=>o_put hr.k n q cs hh
 have t1:=fun n q=>o_drop hr.t n q
 have t2:=fun n q=>o_get hr.t n q
 have t3:=fun n q cs hh=>o_put hr.t n q cs hh
 have h1:=hr.m
 have h2:=hr.k
 have h3:=hr.t
 have j7:(bl r.meas).length=32:=by rw [length_bl];exact h1
 have k7:(bl r.key).length=32:=by rw [length_bl];exact h2
 have t7:(bl r.tree).length=32:=by rw [length_bl];exact h3
 unfold rmC at *
 refine acall_fnK cxOk Tryz.func69 (fun _=>false) (fe69.q) (by kernel_rfl) (by dsimp only [Tryz.f69,go_sem,seval,liteO,Option.map,List.map];exact .mk _) ?_
 dsimp only [Tryz.f69,frame0,List.zipIdx,List.map,Nat.reduceAdd]
 repeat' (first|refine aC_seq ?_|refine aC_reg rfl ?_|refine aC_skip ?_|refine thenQ_normal ?_|refine aL_nil ?_|(apply aL_step;(·exact True.intro);(iterate 2 (·simp (disch:=first|omega|(simp only [go_sem];omega)) only [go_sem,seval,hS,j7,k7,t7,o_put0,hpb,hst,e3,e5,e6]<;>with_reducible rfl));(·simp only [go_sem]<;>with_reducible rfl))|(refine aC_condF ?_ ?_;(·simp (disch:=first|omega|(simp only [go_sem];omega)) only [go_sem,seval]))|(apply aL_aK (hB0);(·rfl);(iterate 2 (·simp (disch:=first|omega|(simp only [go_sem];omega)) only [go_sem,seval]<;>with_reducible rfl));(·simp only [go_sem]<;>with_reducible rfl))|fail)
 refine aC_regH (U:=[(some 22,some 7),(some 25,some 7)]) rfl [(some 22,xb),(some 25,x)] [(S.length+1,.cells (bl [0,0,0,0,0,0,0,0,0,0,0,0,0,0,0,0,0,0,0,0,0,0,0,0,0,0,0,0,0,0,0,0]) 34)] 1 ?_
 repeat' (first|refine aLH_nil ?_|(apply aLH_step;(·exact True.intro);(·rfl);(·rfl);(·simp (disch:=first|omega|(simp only [go_sem];omega)) only [go_sem,seval]);(·simp (disch:=first|omega|(simp only [go_sem];omega)) only [go_sem,seval,hx,hxb,List.replicate]<;>with_reducible rfl);(·simp only [go_sem]<;>with_reducible rfl);(·(intro b hb;first|(cases hb;done)|(simp (disch:=first|omega|(simp only [go_sem];omega)) only [loadBox,go_sem,seval] at hb;(try injection hb with hb);subst hb;simp))))|(apply aLH_write;(·exact True.intro);(·rfl);(·rfl);(·rfl);(·simp (disch:=first|omega|(simp only [go_sem];omega)) only [go_sem,seval]);(·simp (disch:=first|omega|(simp only [go_sem];omega)) only [go_sem,seval,o_put0,hlen,e1,List.replicate]<;>with_reducible rfl);(·simp only [go_sem]<;>with_reducible rfl);(·first|(intro e he;simp only [List.mem_cons,List.not_mem_nil,or_false] at he;subst he;simp (disch:=first|omega|(simp only [go_sem];omega)) only [go_sem,seval,hlen];(try simp only [Option.some.injEq,reduceCtorEq,not_false_eq_true]);done)|(simp;done)|(intro e he;simp only [List.mem_cons,List.mem_singleton,List.not_mem_nil,or_false] at he;rcases he with rfl;simp (disch:=first|omega|(simp only [go_sem];omega)) [go_sem,seval,hS,j1,j2,j3,k1,k2,k3,t1,t2,t3,j7,k7,t7,o_put0,o_putP,hx,hxb,hpb,hlen,e1,e3,List.replicate]));(·first|(intro e he;simp only [List.mem_cons,List.not_mem_nil,or_false] at he;subst he;simp (disch:=first|omega|(simp only [go_sem];omega)) only [go_sem,seval,hlen];(try simp only [Option.some.injEq,reduceCtorEq,not_false_eq_true]);done)|(simp;done)|(intro e he;simp only [List.mem_cons,List.mem_singleton,List.not_mem_nil,or_false] at he;rcases he with rfl;simp (disch:=first|omega|(simp only [go_sem];omega)) [go_sem,seval,hS,j1,j2,j3,k1,k2,k3,t1,t2,t3,j7,k7,t7,o_put0,o_putP,hx,hxb,hpb,hlen,e1,e3,List.replicate]));(·first|(intro e _ hU;simp only [List.mem_cons,Prod.mk.injEq,reduceCtorEq,and_false,or_false,List.not_mem_nil] at hU;done)|simp))|(apply aLH_callR hD [.hole];(case hp=>(rfl));(case hlen=>(first|assumption|(simp (disch:=first|omega|(simp only [go_sem];omega)) only [go_sem,seval,hS,j1,j2,j3,k1,k2,k3,t1,t2,t3,j7,k7,t7,o_put0,o_putP,hx,hxb,hpb,hlen,e1,e3,List.replicate])));(case hT=>(first|rfl|(simp only [List.append_assoc,List.cons_append,List.nil_append];done)|(simp only [List.append_assoc,List.cons_append,List.nil_append];rfl)));(case hg=>(simp (disch:=first|omega|(simp only [go_sem];omega)) only [go_sem,seval]));(case hx=>(simp (disch:=first|omega|(simp only [go_sem];omega)) only [go_sem,seval]<;>with_reducible rfl));(case ha=>(simp (disch:=first|omega|(simp only [go_sem];omega)) only [go_sem,seval]<;>with_reducible rfl));(case he=>(with_reducible rfl));(case hf=>(simp only [go_sem]<;>with_reducible rfl));(case hT'=>(first|(simp only [List.append_assoc,List.cons_append,List.nil_append];with_reducible rfl)|rfl));(case hHs=>(first|(simp;done)|(simp;omega)));(case hB=>(simp)))|(apply aLH_alloc (S.length+1);(case hg=>(simp (disch:=first|omega|(simp only [go_sem];omega)) only [go_sem,seval]));(case hi=>(simp (disch:=first|omega|(simp only [go_sem];omega)) only [go_sem,seval,List.replicate]<;>with_reducible rfl));(case hs=>(simp (disch:=first|omega|(simp only [go_sem];omega)) only [go_sem,seval,hlen]<;>with_reducible rfl));(case hS=>(simp (disch:=first|omega|(simp only [go_sem];omega)) only [go_sem,seval,hlen]<;>with_reducible rfl));(case hf=>(simp only [go_sem]<;>with_reducible rfl));(case hH=>(simp));(case hk=>(first|(simp;done)|(intro e he _;simp only [List.mem_cons,List.not_mem_nil,or_false] at he;(repeat' (obtain he|he:=(he:_∨_)));all_goals (subst he;simp (disch:=first|omega|(simp only [go_sem];omega)) only [go_sem,seval])))))|fail)
 repeat' (first|refine aC_seq ?_|refine aC_reg rfl ?_|refine aC_skip ?_|refine aC_ret ?_|refine thenQ_normal ?_|refine aL_nil ?_|(apply aL_step;(·exact True.intro);(iterate 2 (·simp (disch:=first|omega|(simp only [go_sem];omega)) only [go_sem,seval,k1,k3,t1,t3,k7,t7,o_put0,s3,s4,hlen,e1,e2,e5,e6,e7,e8,z8,put_z]<;>with_reducible rfl));(·simp only [go_sem]<;>with_reducible rfl))|(refine aC_condF ?_ ?_;(·simp (disch:=first|omega|(simp only [go_sem];omega)) only [go_sem,seval]))|(apply aL_aK (hG _ _);(·rfl);(iterate 2 (·simp (disch:=first|omega|(simp only [go_sem];omega)) only [go_sem,seval]<;>with_reducible rfl));(·simp only [go_sem]<;>with_reducible rfl))|fail)
 all_goals try (first|exact True.intro|exact not_false|omega|(simp (disch:=first|omega|(simp only [go_sem];omega)) only [go_sem,seval]<;>omega))
 all_goals try (simp (disch:=first|omega|(simp only [go_sem];omega)) only [go_sem,seval])
 all_goals try simp
 all_goals try omega
end
theorem do_data_state {S:St} {i:Nat} {r:Rm} (hS:S[i]? = some (.cells (rmC r) 37)) (hr:r.Ok) (hst:¬ r.st=1) (xb pb gb:Nat):ACall cx 59 [.ptr i 0,.ptr xb 0,.ptr pb 0,.ptr gb 0] S (.int .i64 7) S:=by
 have hi:i<S.length:=(List.getElem?_eq_some_iff.1 hS).1
 have j1:=fun n q=>o_drop hr.m n q
 have j2:=fun n q=>o_get hr.m n q
 have j3:=fun n q cs hh=>o_put hr.m n q cs hh
 have k1:=fun n q=>o_drop hr.k n q
 have k2:=fun n q=>o_get hr.k n q
 have k3:=fun n q cs hh=>o_put hr.k n q cs hh
 have t1:=fun n q=>o_drop hr.t n q
 have t2:=fun n q=>o_get hr.t n q
 have t3:=fun n q cs hh=>o_put hr.t n q cs hh
 have h1:=hr.m
 have h2:=hr.k
 have h3:=hr.t
 have j7:(bl r.meas).length=32:=by rw [length_bl];exact h1
 have k7:(bl r.key).length=32:=by rw [length_bl];exact h2
 have t7:(bl r.tree).length=32:=by rw [length_bl];exact h3
 unfold rmC at *
 refine acall_fnK cxOk Tryz.func59 (fun _=>false) (fe59.q) (by kernel_rfl) (by dsimp only [Tryz.f59,go_sem,seval,liteO,Option.map,List.map];exact .mk _) ?_
 dsimp only [Tryz.f59,frame0,List.zipIdx,List.map,Nat.reduceAdd]
 repeat' (first|refine aC_seq ?_|refine aC_reg rfl ?_|refine aC_ret ?_|refine thenQ_normal ?_|refine thenQ_ret ?_|refine aL_nil ?_|(apply aL_step;(·exact True.intro);(iterate 2 (·simp (disch:=first|omega|(simp only [go_sem];omega)) only [go_sem,seval,hS,j7,k7,t7,hst,decide_true]<;>with_reducible rfl));(·simp only [go_sem]<;>with_reducible rfl))|(refine aC_condT ?_ ?_;(·simp (disch:=first|omega|(simp only [go_sem];omega)) only [go_sem,seval]))|fail)
 all_goals try (first|exact True.intro|exact not_false|omega|(simp (disch:=first|omega|(simp only [go_sem];omega)) only [go_sem,seval]<;>omega))
theorem do_addrec_state {S:St} {i:Nat} {r:Rm} (hS:S[i]? = some (.cells (rmC r) 37)) (hr:r.Ok) (hst:¬ r.st=1) (pb xb:Nat):ACall cx 69 [.ptr i 0,.ptr pb 0,.ptr xb 0] S (.int .i64 7) S:=by
 have hi:i<S.length:=(List.getElem?_eq_some_iff.1 hS).1
 have j1:=fun n q=>o_drop hr.m n q
 have j2:=fun n q=>o_get hr.m n q
 have j3:=fun n q cs hh=>o_put hr.m n q cs hh
 have k1:=fun n q=>o_drop hr.k n q
 have k2:=fun n q=>o_get hr.k n q
 have k3:=fun n q cs hh=>o_put hr.k n q cs hh
 have t1:=fun n q=>o_drop hr.t n q
 have t2:=fun n q=>o_get hr.t n q
 have t3:=fun n q cs hh=>o_put hr.t n q cs hh
 have h1:=hr.m
 have h2:=hr.k
 have h3:=hr.t
 have j7:(bl r.meas).length=32:=by rw [length_bl];exact h1
 have k7:(bl r.key).length=32:=by rw [length_bl];exact h2
 have t7:(bl r.tree).length=32:=by rw [length_bl];exact h3
 unfold rmC at *
 refine acall_fnK cxOk Tryz.func69 (fun _=>false) (fe69.q) (by kernel_rfl) (by dsimp only [Tryz.f69,go_sem,seval,liteO,Option.map,List.map];exact .mk _) ?_
 dsimp only [Tryz.f69,frame0,List.zipIdx,List.map,Nat.reduceAdd]
 repeat' (first|refine aC_seq ?_|refine aC_reg rfl ?_|refine aC_ret ?_|refine thenQ_normal ?_|refine thenQ_ret ?_|refine aL_nil ?_|(apply aL_step;(·exact True.intro);(iterate 2 (·simp (disch:=first|omega|(simp only [go_sem];omega)) only [go_sem,seval,hS,j7,k7,t7,hst,decide_true]<;>with_reducible rfl));(·simp only [go_sem]<;>with_reducible rfl))|(refine aC_condT ?_ ?_;(·simp (disch:=first|omega|(simp only [go_sem];omega)) only [go_sem,seval]))|fail)
 all_goals try (first|exact True.intro|exact not_false|omega|(simp (disch:=first|omega|(simp only [go_sem];omega)) only [go_sem,seval]<;>omega))
theorem do_addrec_arg {S:St} {i pb:Nat} {r:Rm} {p:Rp} (hS:S[i]? = some (.cells (rmC r) 37)) (hr:r.Ok) (hst:r.st=1) (hpb:S[pb]? = some (.cells (rpC p) 47)) (hp:p.Ok) (hm:¬ p.May) (xb:Nat):ACall cx 69 [.ptr i 0,.ptr pb 0,.ptr xb 0] S (.int .i64 2) S:=by
 have hi:i<S.length:=(List.getElem?_eq_some_iff.1 hS).1
 have hipb:pb<S.length:=(List.getElem?_eq_some_iff.1 hpb).1
 have hB0:=params_recBytes_no (S:=S) (by omega) p hp hm
 obtain ⟨z,hz⟩ : ∃ z,z=List.replicate 128 (0:UInt8):=⟨_,rfl⟩
 have hz1:z.length=128:=by rw [hz];rfl
 rw [← hz] at hB0
 have e3:(bl z).length=128:=by rw [length_bl];exact hz1
 have e4:(bl z).take 128=bl z:=List.take_of_length_le (by omega)
 have e5:=length_rpC hp
 have e6:(rpC p).take 10=rpC p:=List.take_of_length_le (by omega)
 have hw:ACall cx 69 [.ptr i 0,.ptr pb 0,.ptr xb 0] S (.int .i64 2) (S++[.cells (bl z) 44]):=by
  have j1:=fun n q=>o_drop hr.m n q
  have j2:=fun n q=>o_get hr.m n q
  have j3:=fun n q cs hh=>o_put hr.m n q cs hh
  have k1:=fun n q=>o_drop hr.k n q
  have k2:=fun n q=>o_get hr.k n q
  have k3:=fun n q cs hh=>o_put hr.k n q cs hh
  have t1:=fun n q=>o_drop hr.t n q
  have t2:=fun n q=>o_get hr.t n q
  have t3:=fun n q cs hh=>o_put hr.t n q cs hh
  have h1:=hr.m
  have h2:=hr.k
  have h3:=hr.t
  have j7:(bl r.meas).length=32:=by rw [length_bl];exact h1
  have k7:(bl r.key).length=32:=by rw [length_bl];exact h2
  have t7:(bl r.tree).length=32:=by rw [length_bl];exact h3
  unfold rmC at *
  refine acall_fnK cxOk Tryz.func69 (fun _=>false) (fe69.q) (by kernel_rfl) (by dsimp only [Tryz.f69,go_sem,seval,liteO,Option.map,List.map];exact .mk _) ?_
  dsimp only [Tryz.f69,frame0,List.zipIdx,List.map,Nat.reduceAdd]
  repeat' (first|refine aC_seq ?_|refine aC_reg rfl ?_|refine aC_skip ?_|refine aC_ret ?_|refine thenQ_normal ?_|refine thenQ_ret ?_|refine aL_nil ?_|(apply aL_step;(·exact True.intro);(iterate 2 (·simp (disch:=first|omega|(simp only [go_sem];omega)) only [go_sem,seval,hS,j7,k7,t7,o_put0,hpb,hst,e3,e5,e6]<;>with_reducible rfl));(·simp only [go_sem]<;>with_reducible rfl))|(refine aC_condT ?_ ?_;(·simp (disch:=first|omega|(simp only [go_sem];omega)) only [go_sem,seval]))|(refine aC_condF ?_ ?_;(·simp (disch:=first|omega|(simp only [go_sem];omega)) only [go_sem,seval]))|(apply aL_aK (hB0);(·rfl);(iterate 2 (·simp (disch:=first|omega|(simp only [go_sem];omega)) only [go_sem,seval]<;>with_reducible rfl));(·simp only [go_sem]<;>with_reducible rfl))|fail)
  all_goals try (first|exact True.intro|exact not_false|omega|(simp (disch:=first|omega|(simp only [go_sem];omega)) only [go_sem,seval]<;>omega))
 exact hw.keep cxG (by omega) rfl rfl fun i y hy=>.inl hy
end
end Go.Am
end
section
namespace Go.Am
open Go Go.Proofs
set_option maxHeartbeats 8000000
set_option maxRecDepth 100000
section
attribute [local irreducible] aC aL thenQ blockQ scopeQ ALoop AWp
section
variable {S:St} {x a o last:Nat} {rs:Rs} {c:Nat}
theorem realm_kill (h:RmsP S x a o last rs c) {rd:Int} {p:Nat} {e:Int × Rm × Nat} (hp:at? rs rd=some p) (he:rs[p]? = some e):ACall cx 42 [.ptr x 0,.int .i64 rd] S (.int .i64 0) (S.set a (.mp (rmE (rs.set p (e.1,{ e.2.1 with st:=3 },e.2.2))) c)):=by
 have hok:=h.ok e (List.mem_of_getElem? he)
 have hd:=do_kill (S:=S++[.cells (rmC e.2.1) 37]) (i:=S.length) (r:=e.2.1) (by simp) hok 
 have hat:=realm_at_hit h hp he (f:=73) (bs:=[]) (er:=0) (r':={ e.2.1 with st:=3 }) (S':=S) (⟨hok.m,hok.k,hok.t,hok.l,hok.n⟩) (by simpa using hd) rfl rfl rfl (fun i y hy=>.inl hy)
 refine oA lq42 ?_
 exact wk1 True.intro hat
theorem realm_kill_none (h:RmsP S x a o last rs c) {rd:Int} (hr:at? rs rd=none):ACall cx 42 [.ptr x 0,.int .i64 rd] S (.int .i64 6) S:=by
 have hat:=realm_at_none h hr (.fn (.func 73) [] [])
 refine oA lq42 ?_
 exact wk1 True.intro hat
theorem realm_activate (h:RmsP S x a o last rs c) {rd:Int} {p:Nat} {e:Int × Rm × Nat} (hp:at? rs rd=some p) (he:rs[p]? = some e) (hst:e.2.1.st=1):ACall cx 21 [.ptr x 0,.int .i64 rd] S (.int .i64 0) (S.set a (.mp (rmE (rs.set p (e.1,{ e.2.1 with st:=2 },e.2.2))) c)):=by
 have hok:=h.ok e (List.mem_of_getElem? he)
 have hd:=do_activate (S:=S++[.cells (rmC e.2.1) 37]) (i:=S.length) (r:=e.2.1) (by simp) hok hst
 have hat:=realm_at_hit h hp he (f:=58) (bs:=[]) (er:=0) (r':={ e.2.1 with st:=2 }) (S':=S) (⟨hok.m,hok.k,hok.t,hok.l,hok.n⟩) (by simpa using hd) rfl rfl rfl (fun i y hy=>.inl hy)
 refine oA lq21 ?_
 exact wk1 True.intro hat
theorem realm_activate_no (h:RmsP S x a o last rs c) {rd:Int} {p:Nat} {e:Int × Rm × Nat} (hp:at? rs rd=some p) (he:rs[p]? = some e) (hst:¬ e.2.1.st=1):ACall cx 21 [.ptr x 0,.int .i64 rd] S (.int .i64 7) (S):=by
 have hok:=h.ok e (List.mem_of_getElem? he)
 have hd:=do_activate_no (S:=S++[.cells (rmC e.2.1) 37]) (i:=S.length) (r:=e.2.1) (by simp) hok hst
 have hat:=realm_at_hit h hp he (f:=58) (bs:=[]) (er:=7) (r':=e.2.1) (S':=S) (h.ok e (List.mem_of_getElem? he)) (by simpa using hd) rfl rfl rfl (fun i y hy=>.inl hy)
 refine oA lq21 ?_
 exact wk1 True.intro hat
theorem realm_activate_none (h:RmsP S x a o last rs c) {rd:Int} (hr:at? rs rd=none):ACall cx 21 [.ptr x 0,.int .i64 rd] S (.int .i64 6) S:=by
 have hat:=realm_at_none h hr (.fn (.func 58) [] [])
 refine oA lq21 ?_
 exact wk1 True.intro hat
theorem realm_droprec (h:RmsP S x a o last rs c) {rd:Int} {p:Nat} {e:Int × Rm × Nat} (hp:at? rs rd=some p) (he:rs[p]? = some e) (hst:0<e.2.1.recs) (hst2:e.2.1.recs<1000000):ACall cx 39 [.ptr x 0,.int .i64 rd] S (.int .i64 0) (S.set a (.mp (rmE (rs.set p (e.1,{ e.2.1 with recs:=e.2.1.recs-1 },e.2.2))) c)):=by
 have hok:=h.ok e (List.mem_of_getElem? he)
 have hd:=do_droprec (S:=S++[.cells (rmC e.2.1) 37]) (i:=S.length) (r:=e.2.1) (by simp) hok hst hst2
 have hat:=realm_at_hit h hp he (f:=72) (bs:=[]) (er:=0) (r':={ e.2.1 with recs:=e.2.1.recs-1 }) (S':=S) (⟨hok.m,hok.k,hok.t,hok.l,hok.n⟩) (by simpa using hd) rfl rfl rfl (fun i y hy=>.inl hy)
 refine oA lq39 ?_
 exact wk1 True.intro hat
theorem realm_droprec_no (h:RmsP S x a o last rs c) {rd:Int} {p:Nat} {e:Int × Rm × Nat} (hp:at? rs rd=some p) (he:rs[p]? = some e) (hst:e.2.1.recs=0):ACall cx 39 [.ptr x 0,.int .i64 rd] S (.int .i64 2) (S):=by
 have hok:=h.ok e (List.mem_of_getElem? he)
 have hd:=do_droprec_no (S:=S++[.cells (rmC e.2.1) 37]) (i:=S.length) (r:=e.2.1) (by simp) hok hst
 have hat:=realm_at_hit h hp he (f:=72) (bs:=[]) (er:=2) (r':=e.2.1) (S':=S) (h.ok e (List.mem_of_getElem? he)) (by simpa using hd) rfl rfl rfl (fun i y hy=>.inl hy)
 refine oA lq39 ?_
 exact wk1 True.intro hat
theorem realm_droprec_none (h:RmsP S x a o last rs c) {rd:Int} (hr:at? rs rd=none):ACall cx 39 [.ptr x 0,.int .i64 rd] S (.int .i64 6) S:=by
 have hat:=realm_at_none h hr (.fn (.func 72) [] [])
 refine oA lq39 ?_
 exact wk1 True.intro hat
theorem rs_same {rs:Rs} {p:Nat} {e:Int × Rm × Nat} (he:rs[p]? = some e):rs.set p (e.1,e.2.1,e.2.2)=rs:=by
 obtain ⟨h1,h2⟩:=List.getElem?_eq_some_iff.1 he
 show rs.set p e=rs
 rw [← h2]
 exact List.set_getElem_self h1
theorem set_same_S {S:St} {i:Nat} {y:ABox} (h:S[i]? = some y):S.set i y=S:=by
 obtain ⟨h1,h2⟩:=List.getElem?_eq_some_iff.1 h
 rw [← h2]
 exact List.set_getElem_self h1
def zRm:Rm:=⟨0,0,0,0,zq,true,[],zq,0,zq,0⟩
def zRmC:List AVal:=.int .u64 0 :: .int .i64 0 :: .int .i64 0 :: .int .u64 0::(bl [0,0,0,0,0,0,0,0,0,0,0,0,0,0,0,0,0,0,0,0,0,0,0,0,0,0,0,0,0,0,0,0]++(.sl 1 true [] .any::(bl [0,0,0,0,0,0,0,0,0,0,0,0,0,0,0,0,0,0,0,0,0,0,0,0,0,0,0,0,0,0,0,0]++(.int .u64 0::(bl [0,0,0,0,0,0,0,0,0,0,0,0,0,0,0,0,0,0,0,0,0,0,0,0,0,0,0,0,0,0,0,0]++[.int .i64 0])))))
theorem length_zRmC:zRmC.length=103:=rfl
theorem zRm_one:∀ c∈zRmC,c.one=true:=fun c hc=>by
 unfold zRmC at hc
 simp only [List.mem_cons,List.mem_append,List.not_mem_nil,or_false] at hc
 rcases hc with rfl|rfl|rfl|rfl|hc|rfl|hc|rfl|hc|rfl
 all_goals first|rfl|exact bl_one _ _ hc
theorem realm_next (h:RmsP S x a o last rs c) {rd:Int} {p:Nat} {e:Int × Rm × Nat} (hp:at? rs rd=some p) (he:rs[p]? = some e) (hc:e.2.1.ctr<4294967296):ACall cx 13 [.ptr x 0,.int .i64 rd] S (.tup [.int .u64 (e.2.1.ctr+1:Nat),.int .i64 0]) (S.set a (.mp (rmE (rs.set p (e.1,{ e.2.1 with ctr:=e.2.1.ctr+1 },e.2.2))) c)):=by
 have hok:=h.ok e (List.mem_of_getElem? he)
 have hlt:=h.lt
 have hd:=do_next (S:=S++[.cells [.int .u64 0] 31,.cells (rmC e.2.1) 37]) (i:=S.length+1) (r:=e.2.1) (by simp) hok (j:=S.length) (n0:=.int .u64 0) (by simp) (by omega) hc
 have hat:=realm_at_hit (h.more [.cells [.int .u64 0] 31]) hp he (f:=49) (bs:=[.ptr S.length 0]) (er:=0) (r':={ e.2.1 with ctr:=e.2.1.ctr+1 }) (S':=S++[.cells [.int .u64 (e.2.1.ctr+1:Nat)] 31]) ⟨hok.m,hok.k,hok.t,hok.l,hok.n⟩ (by simpa using hd) (by simp)
  (by rw [List.getElem?_append_left hlt.1,List.getElem?_append_left hlt.1]) (by rw [List.getElem?_append_left hlt.2,List.getElem?_append_left hlt.2])
  (fun i y hy=>by
   by_cases hi:i<S.length
   ·rw [List.getElem?_append_left hi] at hy ⊢
    exact .inl hy
   ·rw [List.getElem?_append_right (by omega)] at hy
    have:i-S.length=0:=by
     have:=(List.getElem?_eq_some_iff.1 hy).1
     simp at this
     omega
    rw [this] at hy
    rw [← Option.some.inj hy]
    exact .inr rfl)
 rw [if_pos rfl,List.set_append_left _ _ hlt.2] at hat
 have hw:ACall cx 13 [.ptr x 0,.int .i64 rd] S (.tup [.int .u64 (e.2.1.ctr+1:Nat),.int .i64 0]) (S.set a (.mp (rmE (rs.set p (e.1,{ e.2.1 with ctr:=e.2.1.ctr+1 },e.2.2))) c)++[.cells [.int .u64 (e.2.1.ctr+1:Nat)] 31]):=by
  generalize rmE (rs.set p (e.1,{ e.2.1 with ctr:=e.2.1.ctr+1 },e.2.2))=es at *
  refine oA lq13 ?_
  exact wk1 True.intro hat
 refine hw.keep cxG (by omega) (by simp) rfl fun i y hy=>?_
 by_cases e1:i=a
 ·subst e1
  rw [List.getElem?_set_self hlt.2] at hy
  rw [← Option.some.inj hy]
  exact .inr (belM_rm _ _)
 ·rw [List.getElem?_set_ne (Ne.symm e1)] at hy
  exact .inl hy
theorem realm_next_none (h:RmsP S x a o last rs c) {rd:Int} (hr:at? rs rd=none):ACall cx 13 [.ptr x 0,.int .i64 rd] S (.tup [.int .u64 0,.int .i64 6]) S:=by
 have hat:=fun (R:St) (fn:AVal)=>realm_at_none (h.more R) hr fn
 have hlt:=h.lt
 have hw:ACall cx 13 [.ptr x 0,.int .i64 rd] S (.tup [.int .u64 0,.int .i64 6]) (S++[.cells [.int .u64 0] 31]):=by
  refine oA lq13 ?_
  exact wk1 True.intro hat
 exact hw.keep cxG (by omega) rfl rfl fun i y hy=>.inl hy
theorem realm_settree (h:RmsP S x a o last rs c) {rd:Int} {p:Nat} {e:Int × Rm × Nat} (hp:at? rs rd=some p) (he:rs[p]? = some e) {t:List UInt8} (ht:t.length=32):ACall cx 44 [.ptr x 0,.int .i64 rd,.agg (bl t)] S (.int .i64 0) (S.set a (.mp (rmE (rs.set p (e.1,{ e.2.1 with tree:=t },e.2.2))) c)):=by
 have hok:=h.ok e (List.mem_of_getElem? he)
 have hlt:=h.lt
 have hd:=do_settree (S:=S++[.cells (bl t) 34,.cells (rmC e.2.1) 37]) (i:=S.length+1) (r:=e.2.1) (by simp) hok (j:=S.length) (t:=t) (by simp) (by omega) ht
 have hat:=realm_at_hit (h.more [.cells (bl t) 34]) hp he (f:=74) (bs:=[.ptr S.length 0]) (er:=0) (r':={ e.2.1 with tree:=t }) (S':=S++[.cells (bl t) 34]) ⟨hok.m,hok.k,ht,hok.l,hok.n⟩ (by simpa using hd) rfl rfl rfl (fun i y hy=>.inl hy)
 rw [if_pos rfl,List.set_append_left _ _ hlt.2] at hat
 have hw:ACall cx 44 [.ptr x 0,.int .i64 rd,.agg (bl t)] S (.int .i64 0) (S.set a (.mp (rmE (rs.set p (e.1,{ e.2.1 with tree:=t },e.2.2))) c)++[.cells (bl t) 34]):=by
  generalize rmE (rs.set p (e.1,{ e.2.1 with tree:=t },e.2.2))=es at *
  refine oA lq44 ?_
  exact wk1 True.intro hat
 refine hw.keep cxG (by omega) (by simp) rfl fun i y hy=>?_
 by_cases e1:i=a
 ·subst e1
  rw [List.getElem?_set_self hlt.2] at hy
  rw [← Option.some.inj hy]
  exact .inr (belM_rm _ _)
 ·rw [List.getElem?_set_ne (Ne.symm e1)] at hy
  exact .inl hy
theorem realm_settree_none (h:RmsP S x a o last rs c) {rd:Int} (hr:at? rs rd=none) (t:List UInt8):ACall cx 44 [.ptr x 0,.int .i64 rd,.agg (bl t)] S (.int .i64 6) S:=by
 have hat:=fun (R:St) (fn:AVal)=>realm_at_none (h.more R) hr fn
 have hlt:=h.lt
 have hw:ACall cx 44 [.ptr x 0,.int .i64 rd,.agg (bl t)] S (.int .i64 6) (S++[.cells (bl t) 34]):=by
  refine oA lq44 ?_
  exact wk1 True.intro hat
 exact hw.keep cxG (by omega) rfl rfl fun i y hy=>.inl hy
end
end
end Go.Am
end
section
namespace Go.Am
open Go Go.Proofs
set_option maxHeartbeats 8000000
set_option maxRecDepth 100000
section
attribute [local irreducible] aC aL thenQ blockQ scopeQ ALoop AWp
section
variable {S:St} {x a o last:Nat} {rs:Rs} {c:Nat}
theorem map_erase {α β:Type} (f:α→β):∀ (l:List α) (p:Nat),(l.map f).eraseIdx p=(l.eraseIdx p).map f
 |[],_=>rfl
 |_::_,0=>rfl
 |v::l,p+1=>congrArg (f v :: ·) (map_erase f l p)
theorem del_rm {rs:Rs} {rd:Int} {p:Nat} (h:at? rs rd=some p) (c:Nat):delK (.int .i64 rd) (rmE rs) c = .mp (rmE (rs.eraseIdx p)) c:=by
 unfold delK
 rw [findK_rm,h]
 show ABox.mp ((rmE rs).eraseIdx p) c=_
 unfold rmE
 rw [map_erase]
theorem realm_drop (h:RmsP S x a o last rs c) {rd:Int} {p:Nat} {e:Int × Rm × Nat} (hp:at? rs rd=some p) (he:rs[p]? = some e) (hst:e.2.1.recs=0):ACall cx 23 [.ptr x 0,.int .i64 rd] S (.int .i64 0) (S.set a (.mp (rmE (rs.eraseIdx p)) c)):=by
 have hok:=h.ok e (List.mem_of_getElem? he)
 have hlt:=h.lt
 have hS:=h.bx
 have hM:=h.mp
 have hQ:=qkeys_rm rs rd
 have hX:=del_rm hp c
 have hd:=do_drop (S:=S++[.cells (rmC e.2.1) 37]) (i:=S.length) (r:=e.2.1) (by simp) hok hst
 have hat:=realm_at_hit h hp he (f:=61) (bs:=[]) (er:=0) (r':=e.2.1) (S':=S) hok (by simpa using hd) rfl rfl rfl (fun i y hy=>.inl hy)
 rw [if_pos rfl,rs_same he,set_same_S h.mp] at hat
 refine oA lq23 ?_
 have F:=(pk3 @hS @hM @hX)
 repeat' (first|refine st1 F hat ?_|(refine cp F ?_ ?_<;>intro h)|refine zT F ?_ ?_|refine mLT F ?_ ?_|refine mUT F ?_ ?_|refine mDT F ?_ ?_|(refine gP F ?_ ?_<;>(intro h;first|(exfalso;omega)|(simp only [h,decide_true,decide_false,not_true,not_false_iff])))|(refine gN F ?_ ?_<;>(intro h;first|(exfalso;omega)|(simp only [h,decide_true,decide_false,not_true,not_false_iff]))))
 all_goals try exact cl F
 all_goals try simp
 all_goals try exact hQ
theorem realm_drop_no (h:RmsP S x a o last rs c) {rd:Int} {p:Nat} {e:Int × Rm × Nat} (hp:at? rs rd=some p) (he:rs[p]? = some e) (hst:0<e.2.1.recs):ACall cx 23 [.ptr x 0,.int .i64 rd] S (.int .i64 9) S:=by
 have hok:=h.ok e (List.mem_of_getElem? he)
 have hd:=do_drop_no (S:=S++[.cells (rmC e.2.1) 37]) (i:=S.length) (r:=e.2.1) (by simp) hok hst
 have hat:=realm_at_hit h hp he (f:=61) (bs:=[]) (er:=9) (r':=e.2.1) (S':=S) hok (by simpa using hd) rfl rfl rfl (fun i y hy=>.inl hy)
 rw [if_neg (by decide)] at hat
 refine oA lq23 ?_
 exact wk1 True.intro hat
theorem realm_drop_none (h:RmsP S x a o last rs c) {rd:Int} (hr:at? rs rd=none):ACall cx 23 [.ptr x 0,.int .i64 rd] S (.int .i64 6) S:=by
 have hat:=realm_at_none h hr (.fn (.func 61) [] [])
 refine oA lq23 ?_
 exact wk1 True.intro hat
end
structure RzP (S:St) (x a o k l:Nat) (m:List UInt8) (nd:Bool) (dr:List (List UInt8)) (L:List It) (last:Nat) (rs:Rs) (c:Nat):Prop where
 orc:OrcP S o k l m nd dr L
 rms:RmsP S x a o last rs c
 ak:a≠k
section
variable {S:St} {x a o k l:Nat} {m:List UInt8} {nd:Bool} {dr:List (List UInt8)} {L:List It} {last:Nat} {rs:Rs} {c:Nat}
theorem RzP.xo (h:RzP S x a o k l m nd dr L last rs c):x≠o∧x≠k∧x≠l:=by
 have h1:=h.rms.bx
 refine ⟨?_,?_,?_⟩
 ·rintro rfl
  have:=h1.symm.trans h.orc.bx
  injection (Option.some.inj this) with _ q
  exact absurd q (by decide)
 ·rintro rfl
  have:=h1.symm.trans h.orc.mp
  cases this
 ·rintro rfl
  have:=h1.symm.trans h.orc.lg
  cases this
theorem RzP.ao (h:RzP S x a o k l m nd dr L last rs c):a≠o∧a≠k∧a≠l:=by
 have h1:=h.rms.mp
 refine ⟨?_,h.ak,?_⟩
 ·rintro rfl
  have:=h1.symm.trans h.orc.bx
  cases this
 ·rintro rfl
  have:=h1.symm.trans h.orc.lg
  cases this
theorem RzP.more (h:RzP S x a o k l m nd dr L last rs c) (R:St):RzP (S++R) x a o k l m nd dr L last rs c:=⟨h.orc.more R,h.rms.more R,h.ak⟩
theorem RzP.ask (h:RzP S x a o k l m nd dr L last rs c) (q:Qn) (nl:Bool) (hq:q.key.length=32):RzP (askS S o k l m nd dr L q nl) x a o k l m nd dr (askL dr L q nl) last rs c :=
 ⟨h.orc.ask q nl hq,⟨(askS_ne q nl h.xo.1 h.xo.2.1 h.xo.2.2).trans h.rms.bx,(askS_ne q nl h.ao.1 h.ao.2.1 h.ao.2.2).trans h.rms.mp,h.rms.ok⟩,h.ak⟩
theorem RzP.set (h:RzP S x a o k l m nd dr L last rs c) {rs':Rs} {c':Nat} (ho:∀ e∈rs',e.2.1.Ok):RzP (S.set a (.mp (rmE rs') c')) x a o k l m nd dr L last rs' c':=by
 have n1:=h.ao
 have n2:=h.rms.ne
 have n3:=h.rms.lt
 exact ⟨h.orc.same (List.getElem?_set_ne n1.1) (List.getElem?_set_ne n1.2.1) (List.getElem?_set_ne n1.2.2),⟨by rw [List.getElem?_set_ne (Ne.symm n2)];exact h.rms.bx,List.getElem?_set_self n3.2,ho⟩,h.ak⟩
theorem OrcP.hB (h:OrcP S o k l m nd dr L) (q:Qn) (nl:Bool) (hq:q.key.length=32) (R:St) (i:Nat) (y:ABox) (hy:(askS S o k l m nd dr L q nl++R)[i]? = some y):(S++R)[i]? = some y∨Go.Am.belB (S++R).length y=true:=by
 have hlen:=length_askS (S:=S) (o:=o) (k:=k) (l:=l) (m:=m) (nd:=nd) (dr:=dr) (L:=L) q nl
 by_cases e:i=o∨i=k∨i=l
 ·right
  have:=((h.more R).ask q nl hq).belB (x:=y) e (by rw [askS_app h];exact hy)
  rw [length_askS] at this
  exact this
 ·left
  rw [← askS_app h,askS_ne q nl (by omega) (by omega) (by omega)] at hy
  exact hy
theorem realm_data (h:RzP S x a o k l m nd dr L last rs c) (hL:L.length≤900000) {rd:Int} {p:Nat} {e:Int × Rm × Nat} (hp:at? rs rd=some p) (he:rs[p]? = some e) (hn:e.2.1.nl=false) (hst:e.2.1.st=1) (hl:e.2.1.log.length≤900000) {pg:Nat} {g:List UInt8} (hg:g.length=128) (hpg:pg<128) :
  ACall cx 22 [.ptr x 0,.int .i64 rd,.int .i64 pg,.agg (bl g)] S (.int .i64 0) ((askS S o k l m nd dr L (dgQ 2 (parB e.2.1 pg g)) false).set a (.mp (rmE (rs.set p (e.1,grw e.2.1 (askD dr L (dgQ 2 (parB e.2.1 pg g))) (dataR pg g),e.2.2))) c)):=by
 have hok:=h.rms.ok e (List.mem_of_getElem? he)
 have hlt:=h.rms.lt
 have hlt2:=h.orc.lt
 have hlen:=length_askS (S:=S) (o:=o) (k:=k) (l:=l) (m:=m) (nd:=nd) (dr:=dr) (L:=L) (dgQ 2 (parB e.2.1 pg g)) false
 have hxl:=length_askD h.orc (dgQ 2 (parB e.2.1 pg g))
 have hT:=fun R:St=>realm_there (h.rms.more R)
 have e3:(bl g).length=128:=by rw [length_bl];exact hg
 let R3:St:=[.cells [.ptr x 0] 25,.cells [.int .i64 pg] 3,.cells (bl g) 44]
 have hR3:R3=[.cells [.ptr x 0] 25,.cells [.int .i64 pg] 3,.cells (bl g) 44]:=rfl
 have ho4:=(h.orc.more R3).more [.cells (rmC e.2.1) 37]
 have hd:=do_data ho4 hL (i:=S.length+3) (x:=x) (xb:=S.length) (pb:=S.length+1) (gb:=S.length+2) (a:=a) (last:=last) (pg:=pg) (r:=e.2.1) (g:=g)
  (by simp [hR3]) hok hn hst hl (by rw [List.append_assoc,List.getElem?_append_left hlt.1];exact h.rms.bx) (by simp [hR3]) (by simp [hR3]) (by simp [hR3]) hg hpg (by omega) (by omega) (by omega) (by omega) h.xo (by omega) (by omega) (by omega)
 rw [askS_app (h.orc.more R3),askS_app h.orc,List.set_append_right _ _ (by simp [hlen,hR3])] at hd
 have hat:=realm_at_hit (h.rms.more R3) hp he (f:=59) (bs:=[.ptr S.length 0,.ptr (S.length+1) 0,.ptr (S.length+2) 0]) (er:=0) (r':=grw e.2.1 (askD dr L (dgQ 2 (parB e.2.1 pg g))) (dataR pg g)) (S':=askS S o k l m nd dr L (dgQ 2 (parB e.2.1 pg g)) false++R3)
  (grw_ok hok hxl (dataR_ok pg hg) hn) (by simpa [hR3,hlen] using hd) (by simp [hlen])
  (by rw [List.getElem?_append_left (by omega),List.getElem?_append_left hlt.1];exact askS_ne _ _ h.xo.1 h.xo.2.1 h.xo.2.2) (by rw [List.getElem?_append_left (by omega),List.getElem?_append_left hlt.2];exact askS_ne _ _ h.ao.1 h.ao.2.1 h.ao.2.2)
  (h.orc.hB _ _ rfl R3)
 rw [if_pos rfl,List.set_append_left _ _ (by omega),hR3] at hat
 refine h.orc.keepI _ _ (by rfl) hlt.2 (belM_rm _ _) (J:=R3) ?_ rfl
 rw [hR3]
 clear hd ho4 hR3
 clear R3
 generalize (askS S o k l m nd dr L (dgQ 2 (parB e.2.1 pg g)) false).set a (.mp (rmE (rs.set p (e.1,grw e.2.1 (askD dr L (dgQ 2 (parB e.2.1 pg g))) (dataR pg g),e.2.2))) c)=S2 at *
 have g1:((pg:Nat):Int)<128:=by omega
 have g2:¬ (128:Int)≤((pg:Nat):Int):=by omega
 have g3:¬ ((pg:Nat):Int)<0:=by omega
 refine oA lq22 ?_
 exact wk2 (pk4 @e3 @g1 @g2 @g3) hT hat
end
end
end Go.Am
end
section
namespace Go.Am
open Go Go.Proofs
set_option maxHeartbeats 8000000
set_option maxRecDepth 100000
section
attribute [local irreducible] aC aL thenQ blockQ scopeQ ALoop AWp
section
variable {S:St} {x a o k l:Nat} {m:List UInt8} {nd:Bool} {dr:List (List UInt8)} {L:List It} {last:Nat} {rs:Rs} {c:Nat}
theorem realm_data_none (h:RzP S x a o k l m nd dr L last rs c) {rd:Int} (hr:at? rs rd=none) {pg:Nat} {g:List UInt8} (hg:g.length=128) (hpg:pg<128):ACall cx 22 [.ptr x 0,.int .i64 rd,.int .i64 pg,.agg (bl g)] S (.int .i64 6) S:=by
 have hlt:=h.rms.lt
 have hT:=fun R:St=>realm_there (h.rms.more R)
 have e3:(bl g).length=128:=by rw [length_bl];exact hg
 have g1:((pg:Nat):Int)<128:=by omega
 have g2:¬ (128:Int)≤((pg:Nat):Int):=by omega
 have g3:¬ ((pg:Nat):Int)<0:=by omega
 have hat:=fun (R:St) (fn:AVal)=>realm_at_none (h.rms.more R) hr fn
 have hw:ACall cx 22 [.ptr x 0,.int .i64 rd,.int .i64 pg,.agg (bl g)] S (.int .i64 6) (S++[.cells [.ptr x 0] 25,.cells [.int .i64 pg] 3,.cells (bl g) 44]):=by
  refine acall_fnK cxOk Tryz.func22 (fun _=>false) (fe22.q) (by kernel_rfl) (by dsimp only [Tryz.f22,go_sem,seval,liteO,Option.map,List.map];exact .mk _) ?_
  dsimp only [Tryz.f22,frame0,List.zipIdx,List.map,Nat.reduceAdd]
  repeat' (first|refine aC_seq ?_|refine aC_reg rfl ?_|refine aC_skip ?_|refine aC_ret ?_|refine thenQ_normal ?_|refine aL_nil ?_|(apply aL_step;(·exact True.intro);(iterate 2 (·simp (disch:=omega) only [go_sem,seval,g2,g3,decide_false]<;>with_reducible rfl));(·simp only [go_sem]<;>with_reducible rfl))|(refine aC_condF ?_ ?_;(·simp (disch:=omega) only [go_sem,seval]))|(apply aL_aK (hT _);(·rfl);(iterate 2 (·simp (disch:=omega) only [go_sem,seval]<;>with_reducible rfl));(·simp only [go_sem]<;>with_reducible rfl))|(apply aL_aK (hat _ _);(·rfl);(iterate 2 (·simp (disch:=omega) only [go_sem,seval]<;>with_reducible rfl));(·simp only [go_sem]<;>with_reducible rfl))|fail)
  all_goals try (first|exact True.intro|exact not_false|omega|(simp (disch:=omega) only [go_sem,seval]<;>omega))
 exact hw.keep cxG (by omega) rfl rfl fun i y hy=>.inl hy
theorem realm_data_page (h:RzP S x a o k l m nd dr L last rs c) (rd:Int) {pg:Int} {g:List UInt8} (hg:g.length=128) (hpg:pg<0∨128≤pg):ACall cx 22 [.ptr x 0,.int .i64 rd,.int .i64 pg,.agg (bl g)] S (.int .i64 2) S:=by
 have hlt:=h.rms.lt
 have hT:=fun R:St=>realm_there (h.rms.more R)
 have e3:(bl g).length=128:=by rw [length_bl];exact hg
 have hw:ACall cx 22 [.ptr x 0,.int .i64 rd,.int .i64 pg,.agg (bl g)] S (.int .i64 2) (S++[.cells [.ptr x 0] 25,.cells [.int .i64 pg] 3,.cells (bl g) 44]):=by
  by_cases h0:pg<0
  ·refine acall_fnK cxOk Tryz.func22 (fun _=>false) (fe22.q) (by kernel_rfl) (by dsimp only [Tryz.f22,go_sem,seval,liteO,Option.map,List.map];exact .mk _) ?_
   dsimp only [Tryz.f22,frame0,List.zipIdx,List.map,Nat.reduceAdd]
   repeat' (first|refine aC_seq ?_|refine aC_reg rfl ?_|refine aC_skip ?_|refine aC_ret ?_|refine thenQ_normal ?_|refine thenQ_ret ?_|refine aL_nil ?_|(apply aL_step;(·exact True.intro);(iterate 2 (·simp (disch:=omega) only [go_sem,seval,h0,decide_true]<;>with_reducible rfl));(·simp only [go_sem]<;>with_reducible rfl))|(refine aL_skip ?_ (by simp only [go_sem]<;>with_reducible rfl) ?_;(·simp (disch:=omega) only [go_sem,seval]))|(refine aC_condT ?_ ?_;(·simp (disch:=omega) only [go_sem,seval]))|(refine aC_condF ?_ ?_;(·simp (disch:=omega) only [go_sem,seval]))|(apply aL_aK (hT _);(·rfl);(iterate 2 (·simp (disch:=omega) only [go_sem,seval]<;>with_reducible rfl));(·simp only [go_sem]<;>with_reducible rfl))|fail)
   all_goals try (first|exact True.intro|exact not_false|omega|(simp (disch:=omega) only [go_sem,seval]<;>omega))
  ·have h1:(128:Int)≤pg:=by omega
   refine acall_fnK cxOk Tryz.func22 (fun _=>false) (fe22.q) (by kernel_rfl) (by dsimp only [Tryz.f22,go_sem,seval,liteO,Option.map,List.map];exact .mk _) ?_
   dsimp only [Tryz.f22,frame0,List.zipIdx,List.map,Nat.reduceAdd]
   repeat' (first|refine aC_seq ?_|refine aC_reg rfl ?_|refine aC_skip ?_|refine aC_ret ?_|refine thenQ_normal ?_|refine thenQ_ret ?_|refine aL_nil ?_|(apply aL_step;(·exact True.intro);(iterate 2 (·simp (disch:=omega) only [go_sem,seval,h0,h1,decide_true,decide_false]<;>with_reducible rfl));(·simp only [go_sem]<;>with_reducible rfl))|(refine aC_condT ?_ ?_;(·simp (disch:=omega) only [go_sem,seval]))|(refine aC_condF ?_ ?_;(·simp (disch:=omega) only [go_sem,seval]))|(apply aL_aK (hT _);(·rfl);(iterate 2 (·simp (disch:=omega) only [go_sem,seval]<;>with_reducible rfl));(·simp only [go_sem]<;>with_reducible rfl))|fail)
   all_goals try (first|exact True.intro|exact not_false|omega|(simp (disch:=omega) only [go_sem,seval]<;>omega))
 exact hw.keep cxG (by omega) rfl rfl fun i y hy=>.inl hy
theorem realm_data_state (h:RzP S x a o k l m nd dr L last rs c) {rd:Int} {p:Nat} {e:Int × Rm × Nat} (hp:at? rs rd=some p) (he:rs[p]? = some e) (hst:¬ e.2.1.st=1) {pg:Nat} {g:List UInt8} (hg:g.length=128) (hpg:pg<128):ACall cx 22 [.ptr x 0,.int .i64 rd,.int .i64 pg,.agg (bl g)] S (.int .i64 7) S:=by
 have hok:=h.rms.ok e (List.mem_of_getElem? he)
 have hlt:=h.rms.lt
 have hT:=fun R:St=>realm_there (h.rms.more R)
 have e3:(bl g).length=128:=by rw [length_bl];exact hg
 have g1:((pg:Nat):Int)<128:=by omega
 have g2:¬ (128:Int)≤((pg:Nat):Int):=by omega
 have g3:¬ ((pg:Nat):Int)<0:=by omega
 have hd:=do_data_state (S:=S++[.cells [.ptr x 0] 25,.cells [.int .i64 pg] 3,.cells (bl g) 44]++[.cells (rmC e.2.1) 37]) (i:=S.length+3) (r:=e.2.1) (by simp) hok hst S.length (S.length+1) (S.length+2)
 have hat:=realm_at_hit (h.rms.more [.cells [.ptr x 0] 25,.cells [.int .i64 pg] 3,.cells (bl g) 44]) hp he (f:=59) (bs:=[.ptr S.length 0,.ptr (S.length+1) 0,.ptr (S.length+2) 0]) (er:=7) (r':=e.2.1) (S':=S++[.cells [.ptr x 0] 25,.cells [.int .i64 pg] 3,.cells (bl g) 44]) hok (by simpa using hd) rfl rfl rfl (fun i y hy=>.inl hy)
 rw [if_neg (by decide)] at hat
 have hw:ACall cx 22 [.ptr x 0,.int .i64 rd,.int .i64 pg,.agg (bl g)] S (.int .i64 7) (S++[.cells [.ptr x 0] 25,.cells [.int .i64 pg] 3,.cells (bl g) 44]):=by
  refine acall_fnK cxOk Tryz.func22 (fun _=>false) (fe22.q) (by kernel_rfl) (by dsimp only [Tryz.f22,go_sem,seval,liteO,Option.map,List.map];exact .mk _) ?_
  dsimp only [Tryz.f22,frame0,List.zipIdx,List.map,Nat.reduceAdd]
  repeat' (first|refine aC_seq ?_|refine aC_reg rfl ?_|refine aC_skip ?_|refine aC_ret ?_|refine thenQ_normal ?_|refine aL_nil ?_|(apply aL_step;(·exact True.intro);(iterate 2 (·simp (disch:=omega) only [go_sem,seval,g2,g3,decide_false]<;>with_reducible rfl));(·simp only [go_sem]<;>with_reducible rfl))|(refine aC_condF ?_ ?_;(·simp (disch:=omega) only [go_sem,seval]))|(apply aL_aK (hT _);(·rfl);(iterate 2 (·simp (disch:=omega) only [go_sem,seval]<;>with_reducible rfl));(·simp only [go_sem]<;>with_reducible rfl))|(apply aL_aK (hat);(·rfl);(iterate 2 (·simp (disch:=omega) only [go_sem,seval]<;>with_reducible rfl));(·simp only [go_sem]<;>with_reducible rfl))|fail)
  all_goals try (first|exact True.intro|exact not_false|omega|(simp (disch:=omega) only [go_sem,seval]<;>omega))
 exact hw.keep cxG (by omega) rfl rfl fun i y hy=>.inl hy
theorem realm_addrec_none (h:RzP S x a o k l m nd dr L last rs c) {rd:Int} (hr:at? rs rd=none) {q:Rp} (hq:q.Ok):ACall cx 37 [.ptr x 0,.int .i64 rd,.agg (rpC q)] S (.int .i64 6) S:=by
 have hlt:=h.rms.lt
 have hT:=fun R:St=>realm_there (h.rms.more R)
 have hat:=fun (R:St) (fn:AVal)=>realm_at_none (h.rms.more R) hr fn
 have e5:=length_rpC hq
 have hw:ACall cx 37 [.ptr x 0,.int .i64 rd,.agg (rpC q)] S (.int .i64 6) (S++[.cells [.ptr x 0] 25,.cells (rpC q) 47]):=by
  refine acall_fnK cxOk Tryz.func37 (fun _=>false) (fe37.q) (by kernel_rfl) (by dsimp only [Tryz.f37,go_sem,seval,liteO,Option.map,List.map];exact .mk _) ?_
  dsimp only [Tryz.f37,frame0,List.zipIdx,List.map,Nat.reduceAdd]
  repeat' (first|refine aC_seq ?_|refine aC_reg rfl ?_|refine aC_ret ?_|refine thenQ_normal ?_|refine aL_nil ?_|(apply aL_step;(·exact True.intro);(iterate 2 (·simp (disch:=omega) only [go_sem,seval]<;>with_reducible rfl));(·simp only [go_sem]<;>with_reducible rfl))|(apply aL_aK (hat _ _);(·rfl);(iterate 2 (·simp (disch:=omega) only [go_sem,seval]<;>with_reducible rfl));(·simp only [go_sem]<;>with_reducible rfl))|fail)
  all_goals try (first|exact True.intro|exact not_false|omega|(simp (disch:=omega) only [go_sem,seval]<;>omega))
  all_goals try exact rp_one q
 exact hw.keep cxG (by omega) rfl rfl fun i y hy=>.inl hy
theorem realm_addrec_state (h:RzP S x a o k l m nd dr L last rs c) {rd:Int} {p:Nat} {e:Int × Rm × Nat} (hp:at? rs rd=some p) (he:rs[p]? = some e) (hst:¬ e.2.1.st=1) {q:Rp} (hq:q.Ok):ACall cx 37 [.ptr x 0,.int .i64 rd,.agg (rpC q)] S (.int .i64 7) S:=by
 have hok:=h.rms.ok e (List.mem_of_getElem? he)
 have e5:=length_rpC hq
 have hlt:=h.rms.lt
 have hT:=fun R:St=>realm_there (h.rms.more R)
 have hd:=do_addrec_state (S:=S++[.cells [.ptr x 0] 25,.cells (rpC q) 47]++[.cells (rmC e.2.1) 37]) (i:=S.length+2) (r:=e.2.1) (by simp) hok hst (S.length+1) S.length
 have hat:=realm_at_hit (h.rms.more [.cells [.ptr x 0] 25,.cells (rpC q) 47]) hp he (f:=69) (bs:=[.ptr (S.length+1) 0,.ptr S.length 0]) (er:=7) (r':=e.2.1) (S':=S++[.cells [.ptr x 0] 25,.cells (rpC q) 47]) hok (by simpa using hd) rfl rfl rfl (fun i y hy=>.inl hy)
 rw [if_neg (by decide)] at hat
 have hw:ACall cx 37 [.ptr x 0,.int .i64 rd,.agg (rpC q)] S (.int .i64 7) (S++[.cells [.ptr x 0] 25,.cells (rpC q) 47]):=by
  refine acall_fnK cxOk Tryz.func37 (fun _=>false) (fe37.q) (by kernel_rfl) (by dsimp only [Tryz.f37,go_sem,seval,liteO,Option.map,List.map];exact .mk _) ?_
  dsimp only [Tryz.f37,frame0,List.zipIdx,List.map,Nat.reduceAdd]
  repeat' (first|refine aC_seq ?_|refine aC_reg rfl ?_|refine aC_ret ?_|refine thenQ_normal ?_|refine aL_nil ?_|(apply aL_step;(·exact True.intro);(iterate 2 (·simp (disch:=omega) only [go_sem,seval]<;>with_reducible rfl));(·simp only [go_sem]<;>with_reducible rfl))|(apply aL_aK (hat);(·rfl);(iterate 2 (·simp (disch:=omega) only [go_sem,seval]<;>with_reducible rfl));(·simp only [go_sem]<;>with_reducible rfl))|fail)
  all_goals try (first|exact True.intro|exact not_false|omega|(simp (disch:=omega) only [go_sem,seval]<;>omega))
  all_goals try exact rp_one q
 exact hw.keep cxG (by omega) rfl rfl fun i y hy=>.inl hy
theorem realm_addrec_arg (h:RzP S x a o k l m nd dr L last rs c) {rd:Int} {p:Nat} {e:Int × Rm × Nat} (hp:at? rs rd=some p) (he:rs[p]? = some e) (hst:e.2.1.st=1) {q:Rp} (hq:q.Ok) (hm:¬ q.May):ACall cx 37 [.ptr x 0,.int .i64 rd,.agg (rpC q)] S (.int .i64 2) S:=by
 have hok:=h.rms.ok e (List.mem_of_getElem? he)
 have e5:=length_rpC hq
 have hlt:=h.rms.lt
 have hT:=fun R:St=>realm_there (h.rms.more R)
 have hd:=do_addrec_arg (S:=S++[.cells [.ptr x 0] 25,.cells (rpC q) 47]++[.cells (rmC e.2.1) 37]) (i:=S.length+2) (pb:=S.length+1) (r:=e.2.1) (by simp) hok hst (by simp) hq hm S.length
 have hat:=realm_at_hit (h.rms.more [.cells [.ptr x 0] 25,.cells (rpC q) 47]) hp he (f:=69) (bs:=[.ptr (S.length+1) 0,.ptr S.length 0]) (er:=2) (r':=e.2.1) (S':=S++[.cells [.ptr x 0] 25,.cells (rpC q) 47]) hok (by simpa using hd) rfl rfl rfl (fun i y hy=>.inl hy)
 rw [if_neg (by decide)] at hat
 have hw:ACall cx 37 [.ptr x 0,.int .i64 rd,.agg (rpC q)] S (.int .i64 2) (S++[.cells [.ptr x 0] 25,.cells (rpC q) 47]):=by
  refine acall_fnK cxOk Tryz.func37 (fun _=>false) (fe37.q) (by kernel_rfl) (by dsimp only [Tryz.f37,go_sem,seval,liteO,Option.map,List.map];exact .mk _) ?_
  dsimp only [Tryz.f37,frame0,List.zipIdx,List.map,Nat.reduceAdd]
  repeat' (first|refine aC_seq ?_|refine aC_reg rfl ?_|refine aC_ret ?_|refine thenQ_normal ?_|refine aL_nil ?_|(apply aL_step;(·exact True.intro);(iterate 2 (·simp (disch:=omega) only [go_sem,seval]<;>with_reducible rfl));(·simp only [go_sem]<;>with_reducible rfl))|(apply aL_aK (hat);(·rfl);(iterate 2 (·simp (disch:=omega) only [go_sem,seval]<;>with_reducible rfl));(·simp only [go_sem]<;>with_reducible rfl))|fail)
  all_goals try (first|exact True.intro|exact not_false|omega|(simp (disch:=omega) only [go_sem,seval]<;>omega))
  all_goals try exact rp_one q
 exact hw.keep cxG (by omega) rfl rfl fun i y hy=>.inl hy
theorem realm_addrec (h:RzP S x a o k l m nd dr L last rs c) (hL:L.length≤900000) {rd:Int} {p:Nat} {e:Int × Rm × Nat} (hp:at? rs rd=some p) (he:rs[p]? = some e) (hn:e.2.1.nl=false) (hst:e.2.1.st=1) (hl:e.2.1.log.length≤900000) (hrc:0≤e.2.1.recs∧e.2.1.recs≤900000) {q:Rp} (hq:q.Ok) (hm:q.May) :
  ACall cx 37 [.ptr x 0,.int .i64 rd,.agg (rpC q)] S (.int .i64 0) ((askS S o k l m nd dr L (dgQ 3 (recP e.2.1 q)) false).set a (.mp (rmE (rs.set p (e.1,grwR e.2.1 (askD dr L (dgQ 3 (recP e.2.1 q))) (recR q),e.2.2))) c)):=by
 have hok:=h.rms.ok e (List.mem_of_getElem? he)
 have hlt:=h.rms.lt
 have hlt2:=h.orc.lt
 have e5:=length_rpC hq
 have hlen:=length_askS (S:=S) (o:=o) (k:=k) (l:=l) (m:=m) (nd:=nd) (dr:=dr) (L:=L) (dgQ 3 (recP e.2.1 q)) false
 have hxl:=length_askD h.orc (dgQ 3 (recP e.2.1 q))
 let R3:St:=[.cells [.ptr x 0] 25,.cells (rpC q) 47]
 have hR3:R3=[.cells [.ptr x 0] 25,.cells (rpC q) 47]:=rfl
 have ho4:=(h.orc.more R3).more [.cells (rmC e.2.1) 37]
 have hd:=do_addrec ho4 hL (i:=S.length+2) (x:=x) (xb:=S.length) (pb:=S.length+1) (a:=a) (last:=last) (r:=e.2.1) (p:=q)
  (by simp [hR3]) hok hn hst hl hrc (by rw [List.append_assoc,List.getElem?_append_left hlt.1];exact h.rms.bx) (by simp [hR3]) (by simp [hR3]) hq hm (by omega) (by omega) (by omega) (by omega) h.xo (by omega) (by omega)
 rw [askS_app (h.orc.more R3),askS_app h.orc,List.set_append_right _ _ (by simp [hlen,hR3])] at hd
 have hat:=realm_at_hit (h.rms.more R3) hp he (f:=69) (bs:=[.ptr (S.length+1) 0,.ptr S.length 0]) (er:=0) (r':=grwR e.2.1 (askD dr L (dgQ 3 (recP e.2.1 q))) (recR q)) (S':=askS S o k l m nd dr L (dgQ 3 (recP e.2.1 q)) false++R3)
  (grwR_ok hok hxl (recR_ok hq) hn) (by simpa [hR3,hlen] using hd) (by simp [hlen])
  (by rw [List.getElem?_append_left (by omega),List.getElem?_append_left hlt.1];exact askS_ne _ _ h.xo.1 h.xo.2.1 h.xo.2.2) (by rw [List.getElem?_append_left (by omega),List.getElem?_append_left hlt.2];exact askS_ne _ _ h.ao.1 h.ao.2.1 h.ao.2.2)
  (h.orc.hB _ _ rfl R3)
 rw [if_pos rfl,List.set_append_left _ _ (by omega),hR3] at hat
 refine h.orc.keepI _ _ (by rfl) hlt.2 (belM_rm _ _) (J:=R3) ?_ rfl
 rw [hR3]
 clear hd ho4 hR3
 clear R3
 generalize (askS S o k l m nd dr L (dgQ 3 (recP e.2.1 q)) false).set a (.mp (rmE (rs.set p (e.1,grwR e.2.1 (askD dr L (dgQ 3 (recP e.2.1 q))) (recR q),e.2.2))) c)=S2 at *
 refine acall_fnK cxOk Tryz.func37 (fun _=>false) (fe37.q) (by kernel_rfl) (by dsimp only [Tryz.f37,go_sem,seval,liteO,Option.map,List.map];exact .mk _) ?_
 dsimp only [Tryz.f37,frame0,List.zipIdx,List.map,Nat.reduceAdd]
 repeat' (first|refine aC_seq ?_|refine aC_reg rfl ?_|refine aC_ret ?_|refine thenQ_normal ?_|refine aL_nil ?_|(apply aL_step;(·exact True.intro);(iterate 2 (·simp (disch:=omega) only [go_sem,seval]<;>with_reducible rfl));(·simp only [go_sem]<;>with_reducible rfl))|(apply aL_aK (hat);(·rfl);(iterate 2 (·simp (disch:=omega) only [go_sem,seval]<;>with_reducible rfl));(·simp only [go_sem]<;>with_reducible rfl))|fail)
 all_goals try (first|exact True.intro|exact not_false|omega|(simp (disch:=omega) only [go_sem,seval]<;>omega))
 all_goals try exact rp_one q
end
end
end Go.Am
end
