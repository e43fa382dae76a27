/- Realms and their oracle at any state: Create. -/
import Derived.Test.YteemcehaekffeaaGreatO12
import Derived.Test.YteemcehaekffeaaGreatAmPost
set_option linter.unusedVariables false
set_option linter.unusedSimpArgs false
section
namespace Go.Am
open Go Go.Proofs
set_option maxHeartbeats 8000000
set_option maxRecDepth 100000
section
attribute [local irreducible] aC aL thenQ blockQ scopeQ ALoop AWp
def zRp:Rp:=⟨0,List.replicate 8 0,false⟩
theorem zRp_ok:zRp.Ok:=⟨rfl,fun x hx=>by rw [List.eq_of_mem_replicate hx];decide,(by decide:(0:Nat)<18446744073709551616)⟩
def begR (v:List UInt8):Rcd:=⟨1,v,0,List.replicate 128 0,zRp⟩
theorem begR_ok {v:List UInt8} (h:v.length=32):(begR v).Ok:=⟨h,rfl,zRp_ok⟩
def newR (n:Nat) (root:Int) (v:List UInt8) (nodes:Nat) (d1 d2 t:List UInt8):Rm:=⟨n,1,root,nodes,d1,false,[begR v],d2,0,t,0⟩
theorem newR_ok {n nodes:Nat} {root:Int} {v d1 d2 t:List UInt8} (hv:v.length=32) (h1:d1.length=32) (h2:d2.length=32) (ht:t.length=32):(newR n root v nodes d1 d2 t).Ok :=
 ⟨h1,h2,ht,fun x hx=>by rw [List.mem_singleton.1 hx];exact begR_ok hv,fun h=>by cases h⟩
section
variable {S:St} {x a o k l:Nat} {m:List UInt8} {nd:Bool} {dr:List (List UInt8)} {L:List It} {last:Nat} {rs:Rs} {c:Nat}
theorem RzP.setLast (h:RzP S x a o k l m nd dr L last rs c) (n:Nat):RzP (S.set x (.cells [.ptr o 0,.map a,.int .u64 n] 90)) x a o k l m nd dr L n rs c:=by
 have n1:=h.xo
 have n2:=h.rms.ne
 have n3:=h.rms.lt
 exact ⟨h.orc.same (List.getElem?_set_ne n1.1) (List.getElem?_set_ne n1.2.1) (List.getElem?_set_ne n1.2.2),⟨List.getElem?_set_self n3.1,by rw [List.getElem?_set_ne n2];exact h.rms.mp,h.rms.ok⟩,h.ak⟩
theorem RzP.belB (h:RzP S x a o k l m nd dr L last rs c) {i:Nat} {y:ABox} (hi:i=x∨i=a∨i=o∨i=k∨i=l) (hy:S[i]? = some y):Go.Am.belB S.length y=true:=by
 rcases hi with rfl|rfl|hi
 ·rw [h.rms.bx] at hy
  rw [← Option.some.inj hy]
  have:=h.orc.lt
  have:=h.rms.lt
  simp [Go.Am.belB,bels,bel,blt_iff]
  omega
 ·rw [h.rms.mp] at hy
  rw [← Option.some.inj hy]
  exact belM_rm _ _
 ·exact h.orc.belB hi hy
structure Rest (S S':St) (x a o k l:Nat):Prop where
 len:S'.length=S.length
 ne:∀ i,i≠x→i≠a→i≠o→i≠k→i≠l→S'[i]? = S[i]?
theorem RzP.keep {S':St} {L':List It} {last':Nat} {rs':Rs} {c':Nat} (hr:Rest S S' x a o k l) (h:RzP S' x a o k l m nd dr L' last' rs' c') {f:FuncId} {args:List AVal} {v:AVal} {J:St} (hw:ACall cx f args S v (S'++J)) (hv:bel S.length v=true):ACall cx f args S v S':=by
 refine hw.keep cxG (by have:=h.rms.lt;have:=hr.len;omega) hr.len hv fun i y hy=>?_
 by_cases e:i=x∨i=a∨i=o∨i=k∨i=l
 ·right
  rw [← hr.len]
  exact h.belB e hy
 ·rw [hr.ne i (by omega) (by omega) (by omega) (by omega) (by omega)] at hy
  exact .inl hy
def crQ1 (v:List UInt8):Qn:=dgQ 1 v
def crQ2 (m:List UInt8) (n:Nat):Qn:=kyQ m 8 (putl n 8)
def crS (S:St) (x a o k l:Nat) (m:List UInt8) (nd:Bool) (dr:List (List UInt8)) (L:List It) (last:Nat) (v:List UInt8):St :=
 askS (askS (S.set x (.cells [.ptr o 0,.map a,.int .u64 (last+1:Nat)] 90)) o k l m nd dr L (crQ1 v) false) o k l m nd dr (askL dr L (crQ1 v) false) (crQ2 m (last+1)) false
def crL (m:List UInt8) (dr:List (List UInt8)) (L:List It) (last:Nat) (v:List UInt8):List It:=askL dr (askL dr L (crQ1 v) false) (crQ2 m (last+1)) false
def crR (m:List UInt8) (dr:List (List UInt8)) (L:List It) (last:Nat) (root:Int) (v:List UInt8) (nodes:Nat) (t:List UInt8):Rm :=
 newR (last+1) root v nodes (askD dr L (crQ1 v)) (askD dr (askL dr L (crQ1 v) false) (crQ2 m (last+1))) t
theorem crS_P (h:RzP S x a o k l m nd dr L last rs c) (v:List UInt8):RzP (crS S x a o k l m nd dr L last v) x a o k l m nd dr (crL m dr L last v) (last+1) rs c :=
 ((h.setLast (last+1)).ask _ _ rfl).ask _ _ h.orc.m32
theorem length_crS (v:List UInt8):(crS S x a o k l m nd dr L last v).length=S.length:=by
 unfold crS
 rw [length_askS,length_askS,List.length_set]
theorem realm_create (h:RzP S x a o k l m nd dr L last rs c) (hLl:L.length≤800000) {rd root:Int} (hr:at? rs rd=none) (h0:0≤rd) (h1:0≤root) (hla:last<4294967296) {v t:List UInt8} {nodes:Nat} (hv:v.length=32) (ht:t.length=32) :
  ACall cx 9 [.ptr x 0,.int .i64 rd,.int .i64 root,.agg (bl v++[.int .u64 nodes]),.agg (bl t)] S (.tup [.agg (rmC (crR m dr L last root v nodes t)),.int .i64 0])
   ((crS S x a o k l m nd dr L last v).set a (.mp (rmE (rs++[(rd,crR m dr L last root v nodes t,c)])) (c+1))):=by
 have hP0:=h.setLast (last+1)
 have hP1:=hP0.ask (crQ1 v) false rfl
 have hP2:=hP1.ask (crQ2 m (last+1)) false h.orc.m32
 have hT:=fun R:St=>realm_there (h.rms.more R)
 have hxo:=h.xo
 have hao:=h.ao
 have hax:=h.rms.ne
 have hS:=h.rms.bx
 have hM:=h.rms.mp
 have hlt:=h.rms.lt
 have hlt2:=h.orc.lt
 have hL:=fun z=>look_none hr z
 have hF:=(findK_rm rs rd).trans hr
 have hQ:=qkeys_rm rs rd
 have hL1:=askL_le (dr:=dr) (L:=L) (crQ1 v) false
 have d1l:=length_askD hP0.orc (crQ1 v)
 have d2l:=length_askD hP1.orc (crQ2 m (last+1))
 have hlen1:=length_askS (S:=S.set x (.cells [.ptr o 0,.map a,.int .u64 (last+1:Nat)] 90)) (o:=o) (k:=k) (l:=l) (m:=m) (nd:=nd) (dr:=dr) (L:=L) (crQ1 v) false
 have hlen2:=length_askS (S:=askS (S.set x (.cells [.ptr o 0,.map a,.int .u64 (last+1:Nat)] 90)) o k l m nd dr L (crQ1 v) false) (o:=o) (k:=k) (l:=l) (m:=m) (nd:=nd) (dr:=dr) (L:=askL dr L (crQ1 v) false) (crQ2 m (last+1)) false
 have hD1:∀ R:St,ACall cx 30 [.ptr o 0,.int .i64 1,.sl 1 false [.view S.length 0 32 32] .full] (S.set x (.cells [.ptr o 0,.map a,.int .u64 (last+1:Nat)] 90)++[.cells (bl v++[.int .u64 nodes]) 42,.cells (bl t) 34,.cells zRmC 37,.cells zRmC 37]++R) (.tup [.agg (bl (askD dr L (crQ1 v))),.int .i64 0])
   (askS (S.set x (.cells [.ptr o 0,.map a,.int .u64 (last+1:Nat)] 90)) o k l m nd dr L (crQ1 v) false++[.cells (bl v++[.int .u64 nodes]) 42,.cells (bl t) 34,.cells zRmC 37,.cells zRmC 37]++R):=fun R=>by
  have hpart:Parts (S.set x (.cells [.ptr o 0,.map a,.int .u64 (last+1:Nat)] 90)++[.cells (bl v++[.int .u64 nodes]) 42,.cells (bl t) 34,.cells zRmC 37,.cells zRmC 37]++R) [.view S.length 0 32 32] [v]:=by
   refine Parts.more ⟨rfl,fun j hj=>?_⟩ R
   match j,hj with
   |0,_=>exact .inr ⟨S.length,0,32,_,_,by rw [show ([v].getD 0 []).length=32 from hv];rfl,(by rw [List.getElem?_append_right (by simp),List.length_set,Nat.sub_self];rfl),by
     show (List.drop 0 (bl v++[.int .u64 nodes])).take v.length=bl v
     rw [hv]
     exact o_take hv _,by rw [show ([v].getD 0 []).length=32 from hv];simp [hv]⟩
  have:=oracle_digest ((hP0.orc.more [.cells (bl v++[.int .u64 nodes]) 42,.cells (bl t) 34,.cells zRmC 37,.cells zRmC 37]).more R) (by omega) (dom:=1) (by decide) (by decide) hpart false .full (by simp) (by simp [hv]) (by simp [hv])
  rw [askS_app (hP0.orc.more _),askS_app hP0.orc,show [v].flatten=v by simp] at this
  exact this
 have hD2:∀ R:St,ACall cx 31 [.ptr o 0,.int .i64 8,.sl 1 false [.sl 1 false (bl (putl (last+1) 8)) .any] .full] (askS (S.set x (.cells [.ptr o 0,.map a,.int .u64 (last+1:Nat)] 90)) o k l m nd dr L (crQ1 v) false++R) (.tup [.agg (bl (askD dr (askL dr L (crQ1 v) false) (crQ2 m (last+1)))),.int .i64 0])
   (crS S x a o k l m nd dr L last v++R):=fun R=>by
  have hpart:Parts (askS (S.set x (.cells [.ptr o 0,.map a,.int .u64 (last+1:Nat)] 90)) o k l m nd dr L (crQ1 v) false++R) [.sl 1 false (bl (putl (last+1) 8)) .any] [putl (last+1) 8]:=by
   refine ⟨rfl,fun j hj=>?_⟩
   match j,hj with
   |0,_=>exact .inl ⟨false,rfl⟩
  have:=oracle_key (hP1.orc.more R) (by omega) (dom:=8) (by decide) (by decide) hpart false .full (by simp) (by simp [putl_length]) (by simp [putl_length])
  rw [askS_app hP1.orc,show [putl (last+1) 8].flatten=putl (last+1) 8 by simp] at this
  exact this
 have hW:=realm_word (last+1) (by omega)
 have hrest:Rest S ((crS S x a o k l m nd dr L last v).set a (.mp (rmE (rs++[(rd,crR m dr L last root v nodes t,c)])) (c+1))) x a o k l:=⟨by rw [List.length_set,length_crS],fun i i1 i2 i3 i4 i5=>by
  rw [List.getElem?_set_ne (Ne.symm i2)]
  unfold crS
  rw [askS_ne _ _ i3 i4 i5,askS_ne _ _ i3 i4 i5,List.getElem?_set_ne (Ne.symm i1)]⟩
 have hok:=newR_ok (n:=last+1) (root:=root) (nodes:=nodes) hv d1l d2l ht
 have hPf:=(crS_P h v).set (rs':=rs++[(rd,crR m dr L last root v nodes t,c)]) (c':=c+1) (fun e he=>by
  rcases List.mem_append.1 he with he|he
  ·exact h.rms.ok e he
  ·rw [List.mem_singleton.1 he]
   exact hok)
 refine RzP.keep hrest hPf (J:=[.cells (bl v++[.int .u64 nodes]) 42,.cells (bl t) 34,.cells (rmC (crR m dr L last root v nodes t)) 37,.cells zRmC 37,.cells (bl (askD dr L (crQ1 v))) 34,.cells (bl (askD dr (askL dr L (crQ1 v) false) (crQ2 m (last+1)))) 34]) ?_ (by simp [bel,bels,bels_rmC])
 have hbx1:=hP1.rms.bx
 have hbx2:=hP2.rms.bx
 have hmp2:=hP2.rms.mp
 change (crS S x a o k l m nd dr L last v)[x]? = _ at hbx2
 change (crS S x a o k l m nd dr L last v)[a]? = _ at hmp2
 change (crS S x a o k l m nd dr L last v).length=_ at hlen2
 have hown:∀ (Q:St),0<Q.length→ACall cx 28 [.agg (.int .u64 (last+1:Nat) :: .int .i64 1 :: .int .i64 root :: .int .u64 nodes::(bl (askD dr L (crQ1 v))++(.sl 172 false [.agg (rdC (begR v))] .full::(bl (askD dr (askL dr L (crQ1 v) false) (crQ2 m (last+1)))++(.int .u64 0::(bl t++[.int .i64 0]))))))] Q (.agg (rmC (crR m dr L last root v nodes t))) Q:=fun Q hQ0 =>
  (realm_own hQ0 (crR m dr L last root v nodes t) hok (show 1≤1000000 by decide)).wk (by simp [crR,newR,rmC,gls,Wks,Wk,Wks_app]) (Wk_refl _)
 have hrm:=length_rmC hok
 have hro:=rm_one (crR m dr L last root v nodes t)
 change (rmC (crR m dr L last root v nodes t)).length=103 at hrm
 have hwk:Wke (rmE rs++[(.int .i64 rd,.agg (.int .u64 (last+1:Nat) :: .int .i64 1 :: .int .i64 root :: .int .u64 nodes::(bl (askD dr L (crQ1 v))++(.sl 172 false [.agg (rdC (begR v))] .full::(bl (askD dr (askL dr L (crQ1 v) false) (crQ2 m (last+1)))++(.int .u64 0::(bl t++[.int .i64 0])))))),c)]) (rmE (rs++[(rd,crR m dr L last root v nodes t,c)])):=by
  rw [show rmE (rs++[(rd,crR m dr L last root v nodes t,c)])=rmE rs++[(.int .i64 rd,.agg (rmC (crR m dr L last root v nodes t)),c)] by simp [rmE]]
  refine Wke_app _ ⟨rfl,?_,rfl,trivial⟩
  simp [crR,newR,rmC,gls,Wks,Wk,Wks_app]
 have l5:=length_crS (S:=S) (x:=x) (a:=a) (o:=o) (k:=k) (l:=l) (m:=m) (nd:=nd) (dr:=dr) (L:=L) (last:=last) v
 have hfin:=fun (f:FuncId) (args:List AVal) (v':AVal) (es:List (AVal × AVal × Nat)) (J:St) (hw:ACall cx f args S v' ((crS S x a o k l m nd dr L last v).set a (.mp es (c+1))++J)) (hk:Wke es (rmE (rs++[(rd,crR m dr L last root v nodes t,c)]))) =>
  hw.wkMap a (es':=rmE (rs++[(rd,crR m dr L last root v nodes t,c)])) (c:=c+1) (by rw [List.getElem?_append_left (by simp;omega),List.getElem?_set_self (by omega)]) hk
 have hfin2:=fun hw0=>hfin 9 [.ptr x 0,.int .i64 rd,.int .i64 root,.agg (bl v++[.int .u64 nodes]),.agg (bl t)] (.tup [.agg (rmC (crR m dr L last root v nodes t)),.int .i64 0]) _ [.cells (bl v++[.int .u64 nodes]) 42,.cells (bl t) 34,.cells (rmC (crR m dr L last root v nodes t)) 37,.cells zRmC 37,.cells (bl (askD dr L (crQ1 v))) 34,.cells (bl (askD dr (askL dr L (crQ1 v) false) (crQ2 m (last+1)))) 34] hw0 hwk
 rw [List.set_append_left _ _ (by simp;omega),List.set_set] at hfin2
 refine hfin2 ?_
 have z99:(bl [0,0,0,0,0,0,0,0,0,0,0,0,0,0,0,0,0,0,0,0,0,0,0,0,0,0,0,0,0,0,0,0]++(AVal.sl 1 true [] .any::(bl [0,0,0,0,0,0,0,0,0,0,0,0,0,0,0,0,0,0,0,0,0,0,0,0,0,0,0,0,0,0,0,0]++(AVal.int .u64 0::(bl [0,0,0,0,0,0,0,0,0,0,0,0,0,0,0,0,0,0,0,0,0,0,0,0,0,0,0,0,0,0,0,0]++[AVal.int .i64 0]))))).take 99=(bl [0,0,0,0,0,0,0,0,0,0,0,0,0,0,0,0,0,0,0,0,0,0,0,0,0,0,0,0,0,0,0,0]++(AVal.sl 1 true [] .any::(bl [0,0,0,0,0,0,0,0,0,0,0,0,0,0,0,0,0,0,0,0,0,0,0,0,0,0,0,0,0,0,0,0]++(AVal.int .u64 0::(bl [0,0,0,0,0,0,0,0,0,0,0,0,0,0,0,0,0,0,0,0,0,0,0,0,0,0,0,0,0,0,0,0]++[AVal.int .i64 0]))))):=by rfl
 have z0:putCells (bl [0,0,0,0,0,0,0,0,0,0,0,0,0,0,0,0,0,0,0,0,0,0,0,0,0,0,0,0,0,0,0,0]++(AVal.sl 1 true [] .any::(bl [0,0,0,0,0,0,0,0,0,0,0,0,0,0,0,0,0,0,0,0,0,0,0,0,0,0,0,0,0,0,0,0]++(AVal.int .u64 0::(bl [0,0,0,0,0,0,0,0,0,0,0,0,0,0,0,0,0,0,0,0,0,0,0,0,0,0,0,0,0,0,0,0]++[AVal.int .i64 0]))))) 0 (bl [0,0,0,0,0,0,0,0,0,0,0,0,0,0,0,0,0,0,0,0,0,0,0,0,0,0,0,0,0,0,0,0]++(AVal.sl 1 true [] .any::(bl [0,0,0,0,0,0,0,0,0,0,0,0,0,0,0,0,0,0,0,0,0,0,0,0,0,0,0,0,0,0,0,0]++(AVal.int .u64 0::(bl [0,0,0,0,0,0,0,0,0,0,0,0,0,0,0,0,0,0,0,0,0,0,0,0,0,0,0,0,0,0,0,0]++[AVal.int .i64 0])))))=(bl [0,0,0,0,0,0,0,0,0,0,0,0,0,0,0,0,0,0,0,0,0,0,0,0,0,0,0,0,0,0,0,0]++(AVal.sl 1 true [] .any::(bl [0,0,0,0,0,0,0,0,0,0,0,0,0,0,0,0,0,0,0,0,0,0,0,0,0,0,0,0,0,0,0,0]++(AVal.int .u64 0::(bl [0,0,0,0,0,0,0,0,0,0,0,0,0,0,0,0,0,0,0,0,0,0,0,0,0,0,0,0,0,0,0,0]++[AVal.int .i64 0]))))):=o_put0 rfl
 have l1:(bl v).length=32:=by rw [length_bl];exact hv
 have l2:(bl t).length=32:=by rw [length_bl];exact ht
 have l3:(bl (askD dr L (crQ1 v))).length=32:=by rw [length_bl];exact d1l
 have l4:(bl (askD dr (askL dr L (crQ1 v) false) (crQ2 m (last+1)))).length=32:=by rw [length_bl];exact d2l
 have v1:(bl v).take 32=bl v:=List.take_of_length_le (by omega)
 have v2:(bl t).take 32=bl t:=List.take_of_length_le (by omega)
 have v3:(bl (askD dr L (crQ1 v))).take 32=bl (askD dr L (crQ1 v)):=List.take_of_length_le (by omega)
 have v4:(bl (askD dr (askL dr L (crQ1 v) false) (crQ2 m (last+1)))).take 32=bl (askD dr (askL dr L (crQ1 v) false) (crQ2 m (last+1))):=List.take_of_length_le (by omega)
 have v5:(rmC (crR m dr L last root v nodes t)).take 103=rmC (crR m dr L last root v nodes t):=List.take_of_length_le (by omega)
 have v6:=fun q=>o_take hv q
 have v7:=fun n q=>o_drop hv n q
 have v8:=fun n q cs hh=>o_put d1l n q cs hh
 have v9:=fun n q cs hh=>o_put d2l n q cs hh
 have v10:=fun n q cs hh=>o_put ht n q cs hh
 have v11:=fun n q cs hh=>o_put hv n q cs hh
 have w1:(((last:Nat):Int)+1)%18446744073709551616=((last+1:Nat):Int):=by omega
 have w2:¬ ((last:Nat):Int)=4294967296:=by omega
 have w3:¬ rd<0:=by omega
 have w4:¬ root<0:=by omega
 have w5:((last:Nat):Int)+1=((last+1:Nat):Int):=by omega
 have hU:=fun vv=>set_new (rs:=rs) hr vv c
 have hF2:∀ vv:AVal,findK (.int .i64 rd) (rmE rs++[(.int .i64 rd,vv,c)])=some rs.length:=fun vv=>by
  have e:rmE rs++[(AVal.int .i64 rd,vv,c)]=rmE rs++[(AVal.int .i64 rd,vv,c)]:=rfl
  unfold findK
  rw [List.findIdx?_append]
  have:=hF
  unfold findK at this
  rw [this]
  simp [AVal.cells,aeqs_cons,aeq_int,rmE]
  rfl
 have hL2:∀ vv z:AVal,lookV (.int .i64 rd) (rmE rs++[(.int .i64 rd,vv,c)]) z=vv:=fun vv z=>by
  unfold lookV
  rw [hF2]
  simp [rmE,List.getD]
 have hQ2:∀ vv:AVal,keysOk cx 3 (.int .i64 rd) (rmE rs++[(.int .i64 rd,vv,c)]):=fun vv=>⟨keyFit_int rd,fun e he=>by
  rcases List.mem_append.1 he with he|he
  ·exact hQ.2 e he
  ·rw [List.mem_singleton.1 he];exact keyFit_int rd⟩
 have rdx:rdC (begR v) = .int .i64 1::(bl v++(.int .i64 0::(bl (List.replicate 128 0)++[.int .u64 0,.int .u64 0,.int .u64 0,.int .u64 0,.int .u64 0,.int .u64 0,.int .u64 0,.int .u64 0,.int .u64 0,.bool false]))):=rfl
 rw [rdx] at hown ⊢
 simp only [List.reduceReplicate] at hown ⊢
 clear hfin hfin2 hwk hrest hPf hok hP2 hL1
 unfold zRmC at *
 generalize rmC (crR m dr L last root v nodes t)=rm at *
 generalize crS S x a o k l m nd dr L last v=S2 at *
 generalize askD dr (askL dr L (crQ1 v) false) (crQ2 m (last+1))=d2 at *
 generalize askD dr L (crQ1 v)=d1 at *
 have hP1x:=hP1.rms.bx
 generalize askS (S.set x (.cells [.ptr o 0,.map a,.int .u64 (last+1:Nat)] 90)) o k l m nd dr L (crQ1 v) false=S1 at *
 rw [List.length_set] at hlen1
 have hl2:S2.length=S.length:=l5
 have hown2:=fun (y:ABox) (R:St)=>hown (S2.set a y++R) (by simp;omega)
 refine oA lq9 ?_
 have F:=(pk12 @hS @hM @hF @hL @z99 @z0 @hrm @l1 @l2 @l3 @l4 (pk12 @hlen1 @hl2 @v1 @v2 @v3 @v4 @v5 @v6 @v7 @v8 @v9 (pk12 @v10 @v11 @w1 @w2 @w3 @w4 @w5 @hU @hF2 @hL2 @hbx1 (pk5 @hbx2 @hmp2 @put_z @o_put0 @o_putP))))
 repeat' (first|refine st1 F hT ?_|(refine cp F ?_ ?_<;>intro h)|refine zT F ?_ ?_|refine mLT F ?_ ?_|refine mUT F ?_ ?_|refine mDT F ?_ ?_|(refine gP F ?_ ?_<;>(intro h;first|(exfalso;omega)|(simp only [h,decide_true,decide_false,not_true,not_false_iff])))|(refine gN F ?_ ?_<;>(intro h;first|(exfalso;omega)|(simp only [h,decide_true,decide_false,not_true,not_false_iff]))))
 refine aC_regH (U:=[(some 61,some 14)]) rfl [(some 61,x)] [(S.length+4,.cells (bl [0,0,0,0,0,0,0,0,0,0,0,0,0,0,0,0,0,0,0,0,0,0,0,0,0,0,0,0,0,0,0,0]) 34)] 1 ?_
 have F:=(pk12 @hS @hM @hF @hL @z99 @z0 @hrm @l1 @l2 @l3 @l4 (pk12 @hlen1 @hl2 @v1 @v2 @v3 @v4 @v5 @v6 @v7 @v8 @v9 (pk12 @v10 @v11 @w1 @w2 @w3 @w4 @w5 @hU @hF2 @hL2 @hbx1 (pk7 @hbx2 @hmp2 @put_z @o_put0 @o_putP hP0.rms.bx @repl_s))))
 repeat' (first|refine sh F ?_|(apply aLH_callR hD1 [.hole];(case hp=>(rfl));(case hlen=>(first|assumption|(simp (disch:=first|omega|(simp only [go_sem];omega)) only [go_sem,seval,reduceCtorEq,hS,hM,hF,hL,z99,z0,hrm,l1,l2,l3,l4,hlen1,hl2,v1,v2,v3,v4,v5,v6,v7,v8,v9,v10,v11,w1,w2,w3,w4,w5,hU,hF2,hL2,hbx1,hbx2,hmp2,put_z,o_put0,o_putP,hP0.rms.bx,List.replicate])));(case hT=>(first|rfl|(simp only [List.append_assoc,List.cons_append,List.nil_append];done)|(simp only [List.append_assoc,List.cons_append,List.nil_append];rfl)));(case hg=>(simp (disch:=first|omega|(simp only [go_sem];omega)) only [go_sem,seval,reduceCtorEq,hS,hM,hF,hL,z99,z0,hrm,l1,l2,l3,l4,hlen1,hl2,v1,v2,v3,v4,v5,v6,v7,v8,v9,v10,v11,w1,w2,w3,w4,w5,hU,hF2,hL2,hbx1,hbx2,hmp2,put_z,o_put0,o_putP,hP0.rms.bx,List.replicate]));(case hx=>(simp (disch:=first|omega|(simp only [go_sem];omega)) only [go_sem,seval,reduceCtorEq,hS,hM,hF,hL,z99,z0,hrm,l1,l2,l3,l4,hlen1,hl2,v1,v2,v3,v4,v5,v6,v7,v8,v9,v10,v11,w1,w2,w3,w4,w5,hU,hF2,hL2,hbx1,hbx2,hmp2,put_z,o_put0,o_putP,hP0.rms.bx,List.replicate]<;>with_reducible rfl));(case ha=>(simp (disch:=first|omega|(simp only [go_sem];omega)) only [go_sem,seval,reduceCtorEq,hS,hM,hF,hL,z99,z0,hrm,l1,l2,l3,l4,hlen1,hl2,v1,v2,v3,v4,v5,v6,v7,v8,v9,v10,v11,w1,w2,w3,w4,w5,hU,hF2,hL2,hbx1,hbx2,hmp2,put_z,o_put0,o_putP,hP0.rms.bx,List.replicate]<;>with_reducible rfl));(case he=>(with_reducible rfl));(case hf=>(simp only [go_sem]<;>with_reducible rfl));(case hT'=>(first|(simp only [List.append_assoc,List.cons_append,List.nil_append];with_reducible rfl)|rfl));(case hHs=>(first|(simp;done)|(simp;omega)));(case hB=>(simp)))|refine hN_ ((S.length+4)) F ?_)
 refine st (pk12 @hS @hM @hF @hL @z99 @z0 @hrm @l1 @l2 @l3 @l4 (pk12 @hlen1 @hl2 @v1 @v2 @v3 @v4 @v5 @v6 @v7 @v8 @v9 (pk12 @v10 @v11 @w1 @w2 @w3 @w4 @w5 @hU @hF2 @hL2 @hbx1 (pk7 @hbx2 @hmp2 @put_z @o_put0 @o_putP @hP1x @repl_s)))) ?_
 refine aC_regH (U:=[(some 72,some 77),(some 72,some 16),(some 76,some 16)]) rfl [(some 72,x),(some 76,x)] [(S.length+5,.cells (bl [0,0,0,0,0,0,0,0,0,0,0,0,0,0,0,0,0,0,0,0,0,0,0,0,0,0,0,0,0,0,0,0]) 34)] 1 ?_
 have F:=(pk12 @hS @hM @hF @hL @z99 @z0 @hrm @l1 @l2 @l3 @l4 (pk12 @hlen1 @hl2 @v1 @v2 @v3 @v4 @v5 @v6 @v7 @v8 @v9 (pk12 @v10 @v11 @w1 @w2 @w3 @w4 @w5 @hU @hF2 @hL2 @hbx1 (pk7 @hbx2 @hmp2 @put_z @o_put0 @o_putP @hP1x @repl_s))))
 repeat' (first|refine sh F ?_|(apply aLH_pure cxG (hW);(case hg=>(simp (disch:=first|omega|(simp only [go_sem];omega)) only [go_sem,seval,reduceCtorEq,hS,hM,hF,hL,z99,z0,hrm,l1,l2,l3,l4,hlen1,hl2,v1,v2,v3,v4,v5,v6,v7,v8,v9,v10,v11,w1,w2,w3,w4,w5,hU,hF2,hL2,hbx1,hbx2,hmp2,put_z,o_put0,o_putP,hP1x,List.replicate]));(case hx=>(simp (disch:=first|omega|(simp only [go_sem];omega)) only [go_sem,seval,reduceCtorEq,hS,hM,hF,hL,z99,z0,hrm,l1,l2,l3,l4,hlen1,hl2,v1,v2,v3,v4,v5,v6,v7,v8,v9,v10,v11,w1,w2,w3,w4,w5,hU,hF2,hL2,hbx1,hbx2,hmp2,put_z,o_put0,o_putP,hP1x,List.replicate]<;>with_reducible rfl));(case ha=>(simp (disch:=first|omega|(simp only [go_sem];omega)) only [go_sem,seval,reduceCtorEq,hS,hM,hF,hL,z99,z0,hrm,l1,l2,l3,l4,hlen1,hl2,v1,v2,v3,v4,v5,v6,v7,v8,v9,v10,v11,w1,w2,w3,w4,w5,hU,hF2,hL2,hbx1,hbx2,hmp2,put_z,o_put0,o_putP,hP1x,List.replicate]<;>with_reducible rfl));(case he=>(simp only [go_sem]<;>with_reducible rfl));(case hcl=>(simp));(case hf=>(simp only [go_sem]<;>with_reducible rfl)))|(apply aLH_callR hD2 ([.cells (bl v++[.int .u64 nodes]) 42,.cells (bl t) 34,.cells (.int .u64 0 :: .int .i64 0 :: .int .i64 0 :: .int .u64 0::(bl [0,0,0,0,0,0,0,0,0,0,0,0,0,0,0,0,0,0,0,0,0,0,0,0,0,0,0,0,0,0,0,0]++(AVal.sl 1 true [] .any::(bl [0,0,0,0,0,0,0,0,0,0,0,0,0,0,0,0,0,0,0,0,0,0,0,0,0,0,0,0,0,0,0,0]++(AVal.int .u64 0::(bl [0,0,0,0,0,0,0,0,0,0,0,0,0,0,0,0,0,0,0,0,0,0,0,0,0,0,0,0,0,0,0,0]++[AVal.int .i64 0])))))) 37,.cells (.int .u64 0 :: .int .i64 0 :: .int .i64 0 :: .int .u64 0::(bl [0,0,0,0,0,0,0,0,0,0,0,0,0,0,0,0,0,0,0,0,0,0,0,0,0,0,0,0,0,0,0,0]++(AVal.sl 1 true [] .any::(bl [0,0,0,0,0,0,0,0,0,0,0,0,0,0,0,0,0,0,0,0,0,0,0,0,0,0,0,0,0,0,0,0]++(AVal.int .u64 0::(bl [0,0,0,0,0,0,0,0,0,0,0,0,0,0,0,0,0,0,0,0,0,0,0,0,0,0,0,0,0,0,0,0]++[AVal.int .i64 0])))))) 37,.cells (bl d1) 34,.hole]);(case hp=>(rfl));(case hlen=>(first|assumption|(simp (disch:=first|omega|(simp only [go_sem];omega)) only [go_sem,seval,reduceCtorEq,hS,hM,hF,hL,z99,z0,hrm,l1,l2,l3,l4,hlen1,hl2,v1,v2,v3,v4,v5,v6,v7,v8,v9,v10,v11,w1,w2,w3,w4,w5,hU,hF2,hL2,hbx1,hbx2,hmp2,put_z,o_put0,o_putP,hP1x,List.replicate])));(case hT=>(first|rfl|(simp only [List.append_assoc,List.cons_append,List.nil_append];done)|(simp only [List.append_assoc,List.cons_append,List.nil_append];rfl)));(case hg=>(simp (disch:=first|omega|(simp only [go_sem];omega)) only [go_sem,seval,reduceCtorEq,hS,hM,hF,hL,z99,z0,hrm,l1,l2,l3,l4,hlen1,hl2,v1,v2,v3,v4,v5,v6,v7,v8,v9,v10,v11,w1,w2,w3,w4,w5,hU,hF2,hL2,hbx1,hbx2,hmp2,put_z,o_put0,o_putP,hP1x,List.replicate]));(case hx=>(simp (disch:=first|omega|(simp only [go_sem];omega)) only [go_sem,seval,reduceCtorEq,hS,hM,hF,hL,z99,z0,hrm,l1,l2,l3,l4,hlen1,hl2,v1,v2,v3,v4,v5,v6,v7,v8,v9,v10,v11,w1,w2,w3,w4,w5,hU,hF2,hL2,hbx1,hbx2,hmp2,put_z,o_put0,o_putP,hP1x,List.replicate]<;>with_reducible rfl));(case ha=>(simp (disch:=first|omega|(simp only [go_sem];omega)) only [go_sem,seval,reduceCtorEq,hS,hM,hF,hL,z99,z0,hrm,l1,l2,l3,l4,hlen1,hl2,v1,v2,v3,v4,v5,v6,v7,v8,v9,v10,v11,w1,w2,w3,w4,w5,hU,hF2,hL2,hbx1,hbx2,hmp2,put_z,o_put0,o_putP,hP1x,List.replicate]<;>with_reducible rfl));(case he=>(with_reducible rfl));(case hf=>(simp only [go_sem]<;>with_reducible rfl));(case hT'=>(first|(simp only [List.append_assoc,List.cons_append,List.nil_append];with_reducible rfl)|rfl));(case hHs=>(first|(simp;done)|(simp;omega)));(case hB=>(simp)))|refine hN_ ((S.length+5)) F ?_)
 have F:=(pk12 @hS @hM @hF @hL @z99 @z0 @hrm @l1 @l2 @l3 @l4 (pk12 @hlen1 @hl2 @v1 @v2 @v3 @v4 @v5 @v6 @v7 @v8 @v9 (pk12 @v10 @v11 @w1 @w2 @w3 @w4 @w5 @hU @hF2 @hL2 @hbx1 (pk6 @hbx2 @hmp2 @put_z @o_put0 @o_putP @repl_s))))
 repeat' (first|refine st1 F hown2 ?_|(refine cp F ?_ ?_<;>intro h)|refine zT F ?_ ?_|refine mLT F ?_ ?_|refine mUT F ?_ ?_|refine mDT F ?_ ?_|(refine gP F ?_ ?_<;>(intro h;first|(exfalso;omega)|(simp only [h,decide_true,decide_false,not_true,not_false_iff])))|(refine gN F ?_ ?_<;>(intro h;first|(exfalso;omega)|(simp only [h,decide_true,decide_false,not_true,not_false_iff]))))
 all_goals try exact cl F
 all_goals try simp
 all_goals try exact hQ
 all_goals try exact hQ2 _
 all_goals try exact hro
 all_goals try exact fun c hc=>bl_one _ _ hc
 ·rintro c (hc|rfl|hc|rfl|rfl)<;>first|rfl|exact bl_one _ _ hc
 ·rintro c (hc|rfl|hc|rfl|hc|rfl)<;>first|rfl|exact bl_one _ _ hc
 ·rintro c (hc|rfl)<;>first|rfl|exact bl_one _ _ hc
end
end
end Go.Am
end
section
namespace Go.Am
open Go Go.Proofs
set_option maxHeartbeats 8000000
set_option maxRecDepth 100000
section
attribute [local irreducible] aC aL thenQ blockQ scopeQ ALoop AWp
theorem ref_le (n:Nat) (hn:n<18446744073709551616):APure cx 35 [.int .u64 n] (.sl 1 false (bl (putl n 8)) .any):=by
 refine oP lq35 ?_
 refine st True.intro ?_
 ·refine loop_rule (cxOk.wp _ _) (σ:=Nat) (fun k=>[(3,.sl 1 (decide (k=0)) (bl (putl n k)) (.grow 0)),(4,.int .i64 k),(0,.int .u64 n)])
   (fun k=>[.grow k 1 5]) (fun k=>8-k) (fun k=>k≤8) 0 (GStep.nil 3 1 5 rfl) ⟨Nat.zero_le _,Sub.of_all (by simp [Fr.get,putl,bl]),by simp⟩ ?_
  intro k hk
  have e1:IntKind.u8.wrap (Int.fdiv (n:Int) (2 ^ (8*k)))=(((UInt8.ofNat (n/256 ^ k%256)).toNat:Nat):Int):=by
   rw [shr_eq,ofNat_toNat8 _ (Nat.mod_lt _ (by decide)),IntKind.wrap_u8];omega
  have e2:putl n (k+1)=putl n k++[UInt8.ofNat (n/256 ^ k%256)]:=putl_succ _ _
  by_cases hlt:k<8
  ·have F:=True.intro
   repeat' (first|refine st F ?_|(refine cp F ?_ ?_<;>intro h))
   all_goals try exact cl F
   all_goals first|exact not_false|(refine ⟨k+1,by omega,Sub.of_all ?_,by simp,by omega⟩;simp (disch:=first|omega|(simp only [go_sem];omega)) only [go_sem,seval,reduceCtorEq,e1,e2,append_bl1];simp)
  ·have hk2:k=8:=by omega
   subst hk2
   have F:=True.intro
   repeat' (first|refine st F ?_|(refine cp F ?_ ?_<;>intro h)|refine zT F ?_ ?_)
   all_goals try exact cl True.intro
   all_goals try (simp (disch:=first|omega|(simp only [go_sem];omega)) only [go_sem,seval,reduceCtorEq])
   all_goals try simp
 all_goals try (first|trivial|omega|(simp;done))
def qV (q:Qn) (dv:AVal):List AVal:=.int .i64 q.k::(bl q.key++[.int .i64 q.dom,dv])
theorem qV_len {q:Qn} (h:q.key.length=32) (dv:AVal):(qV q dv).length=35:=by simp [qV,h]
theorem qV_one (q:Qn) {dv:AVal} (h:dv.one=true):∀ c∈qV q dv,c.one=true:=fun c hc=>by
 unfold qV at hc
 simp only [List.mem_cons,List.mem_append,List.not_mem_nil,or_false] at hc
 rcases hc with rfl|hc|rfl|rfl
 ·rfl
 ·exact bl_one _ _ hc
 ·rfl
 ·exact h
theorem bl_eq:∀ {a b:List UInt8},bl a=bl b→a=b
 |[],[],_=>rfl
 |[],_::_,h=>by cases h
 |_::_,[],h=>by cases h
 |x::a,y::b,h=>by
  injection h with h1 h2
  injection h1 with _ h3
  rw [bl_eq h2,UInt8.toNat_inj.1 (Int.ofNat.inj h3)]
theorem ref_Same {S:St} (hS:0<S.length) (p q:Qn) (nl:Bool) (hp:p.key.length=32) (hq:q.key.length=32) (hpd:p.data.length≤1000000000) (hqd:q.data.length≤1000000000) {dv:AVal} (hd:Part S dv q.data) :
  ACall cx 81 [.agg (qC p nl),.agg (qV q dv)] S (.bool (decide (p=q))) S:=by
 have k1:=fun n r=>o_drop hp n r
 have k2:=fun r=>o_take hp r
 have k3:=fun n r=>o_get hp n r
 have m1:=fun n r=>o_drop hq n r
 have m2:=fun r=>o_take hq r
 have m3:=fun n r=>o_get hq n r
 have qo:=q_one p nl
 have kp:(bl p.key).length=32:=by rw [length_bl];exact hp
 have kq:(bl q.key).length=32:=by rw [length_bl];exact hq
 have hsk:skbs (bl p.key) (bl q.key)=true:=skbs_by (by omega)
 obtain ⟨pk,pkey,pd,pdt⟩:=p
 obtain ⟨qk,qkey,qd,qdt⟩:=q
 simp only at *
 have hw:ACall cx 81 [.agg (qC ⟨pk,pkey,pd,pdt⟩ nl),.agg (qV ⟨qk,qkey,qd,qdt⟩ dv)] S (.bool (decide (Qn.mk pk pkey pd pdt=⟨qk,qkey,qd,qdt⟩))) (S++[.cells (qC ⟨pk,pkey,pd,pdt⟩ nl) 112,.cells (qV ⟨qk,qkey,qd,qdt⟩ dv) 112]):=by
  have qv1:dv.one=true:=by
   rcases hd with ⟨nl',rfl⟩|⟨i,off,c,cs,t,rfl,_⟩<;>rfl
  have qo2:=qV_one ⟨qk,qkey,qd,qdt⟩ qv1
  unfold qC qV at *
  simp only at *
  have hk:(bl pkey=bl qkey)=(pkey=qkey):=propext ⟨fun h=>bl_eq h,fun h=>by rw [h]⟩
  have hz:skbs (bl qkey) (bl [0,0,0,0,0,0,0,0,0,0,0,0,0,0,0,0,0,0,0,0,0,0,0,0,0,0,0,0,0,0,0,0])=true:=skbs_by (by rw [hq];rfl)
  have hz2:skbs (bl pkey) (bl [0,0,0,0,0,0,0,0,0,0,0,0,0,0,0,0,0,0,0,0,0,0,0,0,0,0,0,0,0,0,0,0])=true:=skbs_by (by rw [hp];rfl)
  rcases hd with ⟨nl',g⟩|⟨i,off,c,cs,t,g,g2,g3,g4⟩
  ·subst g
   by_cases e1:pk=qk<;>by_cases e2:pkey=qkey<;>by_cases e3:pd=qd
   all_goals
    refine oA lq81 ?_
    have F:=(pk12 @k1 @k2 @k3 @m1 @m2 @m3 @kp @kq @e1 @e2 @e3 @hk)
    repeat' (first|refine st F ?_|(refine cp F ?_ ?_<;>intro h)|refine zT F ?_ ?_)
    all_goals try exact cl True.intro
    all_goals try (simp (disch:=first|omega|(simp only [go_sem];omega)) only [go_sem,seval,reduceCtorEq,k1,k2,k3,m1,m2,m3,kp,kq,e1,e2,e3,hk,decide_true,decide_false])
    all_goals try simp
    all_goals try exact ⟨by kernel_rfl,by kernel_rfl,hz⟩
    all_goals try exact ⟨by kernel_rfl,by kernel_rfl,hz2,hz⟩
    all_goals try (rintro c (hc|rfl|rfl)<;>first|rfl|exact bl_one _ _ hc)
    all_goals try (intro h;contradiction)
    all_goals try (intro _ h;contradiction)
  ·have hi:i<S.length:=(List.getElem?_eq_some_iff.1 g2).1
   subst g
   by_cases e1:pk=qk<;>by_cases e2:pkey=qkey<;>by_cases e3:pd=qd
   all_goals
    refine oA lq81 ?_
    have F:=(pk12 @k1 @k2 @k3 @m1 @m2 @m3 @kp @kq @e1 @e2 @e3 (pk3 @hk @g2 @g3))
    repeat' (first|refine st F ?_|(refine cp F ?_ ?_<;>intro h)|refine zT F ?_ ?_)
    all_goals try exact cl True.intro
    all_goals try (simp (disch:=first|omega|(simp only [go_sem];omega)) only [go_sem,seval,reduceCtorEq,k1,k2,k3,m1,m2,m3,kp,kq,e1,e2,e3,hk,decide_true,decide_false,g2,g3])
    all_goals try simp
    all_goals try exact ⟨by kernel_rfl,by kernel_rfl,hz⟩
    all_goals try exact ⟨by kernel_rfl,by kernel_rfl,hz2,hz⟩
    all_goals try (rintro c (hc|rfl|rfl)<;>first|rfl|exact bl_one _ _ hc)
    all_goals try (intro h;contradiction)
    all_goals try (intro _ h;contradiction)
 exact hw.keep cxG hS rfl rfl fun i y hy=>.inl hy
end
end Go.Am
end
section
namespace Go.Am
open Go Go.Proofs
set_option maxHeartbeats 8000000
set_option maxRecDepth 100000
section
attribute [local irreducible] aC aL thenQ blockQ scopeQ ALoop AWp
def roC (sd:Nat) (L:List It) (l:Nat):List AVal:=.bool true::(bl zq++[.sl sd true [] .any,.int .i64 L.length,.sl 67 L.isEmpty (gls itC L) (.own l)])
def roD (sd:Nat) (u:Int) (L:List It) (l:Nat):List AVal:=.bool true::(bl zq++[.sl sd true [] .any,.int .i64 u,.sl 67 L.isEmpty (gls itC L) (.own l)])
structure RorP (S:St) (q l:Nat) (sd:Nat) (L:List It):Prop where
 bx:S[q]? = some (.cells (roC sd L l) 79)
 lg:S[l]? = some (.grow L.length 67 114)
 wf:WfL L
theorem RorP.ne {S:St} {q l sd:Nat} {L:List It} (h:RorP S q l sd L):q≠l:=by
 rintro rfl;have:=h.bx;rw [h.lg] at this;cases this
theorem RorP.lt {S:St} {q l sd:Nat} {L:List It} (h:RorP S q l sd L):q<S.length∧l<S.length :=
 ⟨(List.getElem?_eq_some_iff.1 h.bx).1,(List.getElem?_eq_some_iff.1 h.lg).1⟩
theorem RorP.more {S:St} {q l sd:Nat} {L:List It} (h:RorP S q l sd L) (R:St):RorP (S++R) q l sd L:=by
 obtain ⟨h1,h2⟩:=h.lt
 exact ⟨by rw [List.getElem?_append_left h1];exact h.bx,by rw [List.getElem?_append_left h2];exact h.lg,h.wf⟩
theorem RorP.same {S:St} {q l sd:Nat} {L:List It} (h:RorP S q l sd L) {T:St} (h1:T[q]? = S[q]?) (h2:T[l]? = S[l]?):RorP T q l sd L:=⟨h1.trans h.bx,h2.trans h.lg,h.wf⟩
theorem ref_draw {S:St} (h0:0<S.length) {q l sd:Nat} {L:List It} {u:Int} (hS:S[q]? = some (.cells (roD sd u L l) 79)) (n:Nat) (hn:n≤1000000) :
  ACall cx 112 [.ptr q 0,.int .i64 n] S (.agg (bl (drawN [] n))) S:=by
 have hq:q<S.length:=(List.getElem?_eq_some_iff.1 hS).1
 have hw:ACall cx 112 [.ptr q 0,.int .i64 n] S (.agg (bl (drawN [] n))) (S++[.cells (bl (drawN [] n)) 34,.cells (bl (drawN [] n)) 34]):=by
  have e:drawN [] n=putl n 8++(List.replicate 23 0++[1]):=by unfold drawN;rw [if_neg (by simp)]
  have hp:(putl n 8).length=8:=by simp [putl]
  have h':¬ ((n:Nat):Int)<0:=by omega
  have hw:=ref_le n (by omega)
  have j1:=fun n r=>o_drop length_zq n r
  have j2:=fun n r=>o_get length_zq n r
  unfold roD at hS
  rw [e]
  generalize putl n 8=x at *
  obtain ⟨a0,a1,a2,a3,a4,a5,a6,a7,rfl⟩:=eight hp
  refine oA lq112 ?_
  have F:=(pk4 @hS @j1 @j2 @h')
  repeat' (first|refine st1 F hw ?_|(refine cp F ?_ ?_<;>intro h)|refine zT F ?_ ?_)
  all_goals try exact cl True.intro
  all_goals try (simp (disch:=first|omega|(simp only [go_sem];omega)) only [go_sem,seval,reduceCtorEq,hS,List.take_succ_cons,List.take_nil,List.take_zero])
  all_goals try simp [bl,bv,putCells,List.replicate,AVal.one,zq]
 exact hw.keep cxG h0 rfl (by simp [bel,bels_bl]) fun i x hx=>.inl hx
def raskS (S:St) (q l sd:Nat) (L:List It) (qn:Qn):St:=match findQ L qn with
 |some _=>S
 |none=>(S.set l (.grow (L.length+1) 67 114)).set q (.cells (roC sd (L++[⟨qn,false,drawN [] L.length⟩]) l) 79)
theorem findQ_some {L:List It} {qn:Qn} {p:Nat} (h:findQ L qn=some p):∃ hp:p<L.length,L[p].q=qn∧∀ j (hj:j<p),L[j].q≠qn:=by
 obtain ⟨h1,h2,h3⟩:=List.findIdx?_eq_some_iff_getElem.1 h
 exact ⟨h1,by simpa using h2,fun j hj=>by simpa using h3 j hj⟩
theorem findQ_none {L:List It} {qn:Qn} (h:findQ L qn=none) (j:Nat) (hj:j<L.length):L[j].q≠qn:=by
 have:=List.findIdx?_eq_none_iff.1 h L[j] (List.getElem_mem hj)
 simpa using this
theorem qV_exp (qn:Qn) (dv:AVal):qV qn dv = .int .i64 qn.k::(bl qn.key++[.int .i64 qn.dom,dv]):=rfl
theorem itC_exp (i:It):itC i = .int .i64 i.q.k::(bl i.q.key++(.int .i64 i.q.dom :: .sl 1 i.nl (bl i.q.data) .any::bl i.d)):=by
 unfold itC qC
 simp
theorem ref_answer_hit {S:St} (h0:0<S.length) {q l sd:Nat} {L:List It} (h:RorP S q l sd L) (hl:L.length≤900000) (hLd:∀ i∈L,i.q.data.length≤1000000000) (qn:Qn) (hq:qn.key.length=32) (hql:qn.data.length≤1000000000) {dv:AVal} (hd:Part S dv qn.data) {p:Nat} (hp:findQ L qn=some p) :
  ACall cx 93 [.ptr q 0,.agg (qV qn dv),.agg (bl zq)] S (.agg (bl (L.getD p ⟨qn,false,[]⟩).d)) S:=by
 obtain ⟨hpl,hpq,hpn⟩:=findQ_some hp
 have hqlt:=h.lt.1
 have hS:=h.bx
 have qv1:dv.one=true:=by
  rcases hd with ⟨nl',rfl⟩|⟨i,off,c,cs,t,rfl,_⟩<;>rfl
 have hw:ACall cx 93 [.ptr q 0,.agg (qV qn dv),.agg (bl zq)] S (.agg (bl (L.getD p ⟨qn,false,[]⟩).d)) (S++[.cells (qV qn dv) 112,.cells (bl zq) 34,.cells (bl (L.getD p ⟨qn,false,[]⟩).d) 34]):=by
  have j1:=fun n r=>o_drop length_zq n r
  have j2:=fun n r=>o_get length_zq n r
  have qvl:=qV_len hq dv
  have qvo:=qV_one qn qv1
  have qvt:(qV qn dv).take 35=qV qn dv:=List.take_of_length_le (by omega)
  have hlt0:=h.lt
  have hwf:=h.wf
  unfold roC at hS
  unfold zq at *
  generalize hQ:qV qn dv=Q at *
  refine oA lq93 ?_
  refine st True.intro ?_
  ·refine loop_rule (cxOk.wp _ _) (σ:=Nat) (fun k=>[(7,.int .i64 k),(4,.ptr S.length 0),(5,.ptr (S.length+1) 0),(6,.ptr (S.length+2) 0),(0,.ptr q 0)])
    (fun _=>S++[.cells Q 112,.cells (bl [0,0,0,0,0,0,0,0,0,0,0,0,0,0,0,0,0,0,0,0,0,0,0,0,0,0,0,0,0,0,0,0]) 34,.cells (bl [0,0,0,0,0,0,0,0,0,0,0,0,0,0,0,0,0,0,0,0,0,0,0,0,0,0,0,0,0,0,0,0]) 34]) (fun k=>L.length-k) (fun k=>k≤p) 0 (GStep.refl _ _) ⟨Nat.zero_le _,Sub.of_all (by simp [Fr.get,frame0]),by simp⟩ ?_
   intro k hk
   have hkl:k<L.length:=by omega
   have hlt':((k:Nat):Int)<(L.length:Int):=by omega
   have hg:=getD_gls itC L ⟨qn,false,[]⟩ k .any hkl
   obtain ⟨w1,w2⟩:=hwf (L.getD k ⟨qn,false,[]⟩) (by rw [show L.getD k ⟨qn,false,[]⟩=L[k] by simp [List.getD,hkl]];exact List.getElem_mem hkl)
   have hdl:=hLd (L.getD k ⟨qn,false,[]⟩) (by rw [show L.getD k ⟨qn,false,[]⟩=L[k] by simp [List.getD,hkl]];exact List.getElem_mem hkl)
   have hsame:=fun R:St=>ref_Same (S:=S++R) (by simp;omega) (L.getD k ⟨qn,false,[]⟩).q qn (L.getD k ⟨qn,false,[]⟩).nl w1 hq hdl hql (hd.more R)
   rw [hQ] at hsame
   have hgk:L.getD k ⟨qn,false,[]⟩=L[k]:=by simp [List.getD,hkl]
   have hi:=itC_exp (L.getD k ⟨qn,false,[]⟩)
   have ht1:=fun r=>o_take w1 r
   have hd1:=fun n r=>o_drop w1 n r
   rcases Nat.lt_or_ge k p with hkp|hkp
   ·have hne:=hpn k hkp
    rw [← hgk] at hne
    generalize L.getD k ⟨qn,false,[]⟩=it at *
    have hdf:decide (it.q=qn)=false:=decide_eq_false hne
    rw [hdf] at hsame
    have ht34:∀ a b:AVal,∀ r:List AVal,(bl it.q.key++(a::b::r)).take 34=bl it.q.key++[a,b]:=fun a b r=>by
     rw [List.take_append,length_bl,w1,List.take_of_length_le (by rw [length_bl];omega)];rfl
    unfold qC at hsame
    rw [hi] at hg
    have F:=(pk12 @hS @j1 @j2 @hlt' @hg @qvl @qvt @ht1 @hd1 @ht34 @length_gls (pk2 @w1 @w2))
    repeat' (first|refine st1 F hsame ?_|(refine cp F ?_ ?_<;>intro h))
    all_goals try exact cl F
    all_goals try (exact ⟨k+1,by omega,Sub.of_all (by simp [Fr.get]),rfl,by omega⟩)
    all_goals try simp
   ·have hkp2:k=p:=by omega
    subst hkp2
    rw [← hgk] at hpq
    generalize L.getD k ⟨qn,false,[]⟩=it at *
    have hdf:decide (it.q=qn)=true:=decide_eq_true hpq
    rw [hdf] at hsame
    have ht34:∀ a b:AVal,∀ r:List AVal,(bl it.q.key++(a::b::r)).take 34=bl it.q.key++[a,b]:=fun a b r=>by
     rw [List.take_append,length_bl,w1,List.take_of_length_le (by rw [length_bl];omega)];rfl
    have t1:(bl it.d).take 32=bl it.d:=List.take_of_length_le (by rw [length_bl];omega)
    have t2:it.d.take 32=it.d:=List.take_of_length_le (by omega)
    unfold qC at hsame
    rw [hi] at hg
    exact wk1 (pk12 @hS @j1 @j2 @hlt' @hg @qvl @qvt @ht1 @hd1 @ht34 @t1 (pk4 @o_put0 @length_gls @w1 @w2)) hsame
  all_goals try (simp (disch:=first|omega|(simp only [go_sem];omega)) only [go_sem,seval,reduceCtorEq])
  all_goals try simp
  all_goals try exact qvo
 exact hw.keep cxG h0 rfl (by simp [bel,bels_bl]) fun i x hx=>.inl hx
end
end Go.Am
end
