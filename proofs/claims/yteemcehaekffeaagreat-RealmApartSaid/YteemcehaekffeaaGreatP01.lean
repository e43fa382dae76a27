/- Numbers and bytes: wire's get, Put, the document's; Same. -/
import Derived.Test.YteemcehaekffeaaGreatTryzLq
import Derived.Test.YteemcehaekffeaaGreatAmSimp
import Derived.Test.YteemcehaekffeaaGreatAmYield
import Derived.Test.YteemcehaekffeaaGreatAmWalkB
import Derived.Test.YteemcehaekffeaaGreatAmFreshZ
import Derived.Test.YteemcehaekffeaaGreatAmKeep
import Derived.Test.YteemcehaekffeaaGreatAmShelf
import Derived.Test.YteemcehaekffeaaGreatAmPost
set_option linter.unusedVariables false
set_option linter.unusedSimpArgs false
section
namespace Go.Am
open Go Go.Proofs
set_option maxHeartbeats 4000000
set_option maxRecDepth 100000
section
attribute [local irreducible] aC aL thenQ blockQ scopeQ ALoop AWp
theorem foldMM_two (f:Int→Int→Int) (k:IntKind) (a b:Int):foldMM f [.int k a,.int k b]=some (.int k (f a b)):=rfl
theorem minI_l {a b:Int} (h:a≤b):minI a b=a:=by unfold minI;rw [if_neg (by omega)]
theorem minI_r {a b:Int} (h:b≤a):minI a b=b:=by
 unfold minI
 split
 ·rfl
 ·omega
attribute [go_sem] foldMM_two minI_l minI_r
def putl (n:Nat) (size:Nat):List UInt8:=(List.range size).map fun k=>UInt8.ofNat (n/256 ^ k%256)
theorem putl_succ (n k:Nat):putl n (k+1)=putl n k++[UInt8.ofNat (n/256 ^ k%256)]:=by simp [putl,List.range_succ]
@[simp] theorem putl_length (n k:Nat):(putl n k).length=k:=by simp [putl]
attribute [go_sem] putl_length
theorem ofNat_toNat8 (m:Nat) (h:m<256):(UInt8.ofNat m).toNat=m:=by simp [UInt8.toNat_ofNat'];omega
theorem ref_put (n size:Nat) (hn:n<18446744073709551616) (hs:size≤1048576):APure cx 96 [.int .u64 n,.int .i64 size] (.sl 1 (decide (size=0)) (bl (putl n size)) .any):=by
 refine oP lq96 ?_
 refine st True.intro ?_
 ·refine loop_rule (cxOk.wp _ _) (σ:=Nat) (fun k=>[(5,.sl 1 (decide (k=0)) (bl (putl n k)) (.grow 0)),(6,.int .i64 k),(0,.int .u64 (n/256 ^ k:Nat)),(1,.int .i64 size)])
   (fun k=>[.grow k 1 5]) (fun k=>size-k) (fun k=>k≤size) 0 (GStep.nil 5 1 5 rfl) ⟨Nat.zero_le _,Sub.of_all (by simp [Fr.get,putl,bl]),by simp⟩ ?_
  intro k hk
  have hd:n/256 ^ k<18446744073709551616:=Nat.lt_of_le_of_lt (Nat.div_le_self _ _) hn
  have e0:((n/256 ^ k:Nat):Int)%256=(((UInt8.ofNat (n/256 ^ k%256)).toNat:Nat):Int):=by rw [ofNat_toNat8 _ (Nat.mod_lt _ (by decide))];omega
  have e1:((n/256 ^ k:Nat):Int)/256=((n/256 ^ (k+1):Nat):Int):=by rw [Nat.pow_succ,← Nat.div_div_eq_div_mul];omega
  generalize hm:n/256 ^ k=m at *
  have e2:putl n (k+1)=putl n k++[UInt8.ofNat (m%256)]:=by rw [putl_succ,hm]
  by_cases hlt:k<size
  ·have F:=True.intro
   repeat' (first|refine st F ?_|(refine cp F ?_ ?_<;>intro h))
   all_goals try exact cl F
   all_goals first|exact not_false|(refine ⟨k+1,by omega,Sub.of_all ?_,by simp,by omega⟩;simp (disch:=first|omega|(simp only [go_sem];omega)) only [go_sem,seval,reduceCtorEq,e0,e1,e2,append_bl1];simp)
  ·have hk2:k=size:=by omega
   subst hk2
   have F:=True.intro
   repeat' (first|refine st F ?_|(refine cp F ?_ ?_<;>intro h)|refine zT F ?_ ?_)
   all_goals try exact cl True.intro
   all_goals try (simp (disch:=first|omega|(simp only [go_sem];omega)) only [go_sem,seval,reduceCtorEq])
   all_goals try simp
 all_goals try exact cl True.intro
theorem pow_256 (k:Nat):(2:Nat) ^ (8*k)=256 ^ k:=by rw [Nat.pow_mul]
theorem shr_eq (n k:Nat):Int.fdiv (n:Int) (2 ^ (8*k))=((n/256 ^ k:Nat):Int):=by
 rw [Int.fdiv_eq_ediv_of_nonneg _ (Int.pow_nonneg (by decide)),← pow_256 k]
 rw [Int.natCast_ediv]
 congr 1
theorem wire_put (n size:Nat) (hs:1≤size) (hs8:size≤8) (hn:n<256 ^ size):APure cx 66 [.int .u64 n,.int .i64 size] (.tup [.sl 1 false (bl (putl n size)) .any,.int .i64 0]):=by
 have hn64:n<18446744073709551616:=by
  have h1:(256:Nat) ^ size≤256 ^ 8:=Nat.pow_le_pow_right (by decide) hs8
  have e8:(256:Nat) ^ 8=18446744073709551616:=by decide
  omega
 have e0:Int.fdiv (n:Int) (2 ^ (8*size))=0:=by rw [shr_eq,Nat.div_eq_of_lt hn];rfl
 refine oP lq66 ?_
 have F:=True.intro
 repeat' (first|refine st F ?_|(refine cp F ?_ ?_<;>intro h)|refine zT F ?_ ?_|refine mLT F ?_ ?_|refine mUT F ?_ ?_|refine mDT F ?_ ?_|(refine gP F ?_ ?_<;>(intro h;first|(exfalso;omega)|(simp only [h,decide_true,decide_false,not_true,not_false_iff])))|(refine gN F ?_ ?_<;>(intro h;first|(exfalso;omega)|(simp only [h,decide_true,decide_false,not_true,not_false_iff]))))
 all_goals try exact cl F
 all_goals
  refine loop_rule (cxOk.wp _ _) (σ:=Nat) (fun k=>[(6,.sl 1 (decide (k=0)) (bl (putl n k)) (.grow 0)),(26,.int .i64 k),(0,.int .u64 n),(25,.int .i64 size)])
   (fun k=>[.grow k 1 5]) (fun k=>size-k) (fun k=>k≤size) 0 (GStep.nil 6 1 5 rfl) ⟨Nat.zero_le _,Sub.of_all (by simp [Fr.get,putl,bl]),by simp⟩ ?_
  intro k hk
  have e1:IntKind.u8.wrap (Int.fdiv (n:Int) (2 ^ (8*k)))=(((UInt8.ofNat (n/256 ^ k%256)).toNat:Nat):Int):=by
   rw [shr_eq,ofNat_toNat8 _ (Nat.mod_lt _ (by decide)),IntKind.wrap_u8];omega
  have e2:putl n (k+1)=putl n k++[UInt8.ofNat (n/256 ^ k%256)]:=putl_succ _ _
  have F:=True.intro
  repeat' (first|refine st F ?_|(refine cp F ?_ ?_<;>intro h))
  all_goals try exact cl F
  ·refine ⟨k+1,by omega,Sub.of_all ?_,by simp,by omega⟩
   simp (disch:=first|omega|(simp only [go_sem];omega)) only [go_sem,seval,reduceCtorEq,e1,e2,append_bl1]
   simp
  ·have hk2:k=size:=by omega
   subst hk2
   simp (disch:=first|omega|(simp only [go_sem];omega)) only [go_sem,seval,reduceCtorEq]
   simp
   omega
end
end Go.Am
end
section
namespace Go.Am
open Go Go.Proofs
set_option maxHeartbeats 8000000
set_option maxRecDepth 100000
def wl (ws:List Nat):List AVal:=ws.map fun (w:Nat)=>.int .u64 ((w:Nat):Int)
@[simp] theorem length_wl (ws:List Nat):(wl ws).length=ws.length:=by simp [wl]
@[simp] theorem closed_wl (ws:List Nat):(∀ x∈wl ws,Closed x)↔True:=⟨fun _=>trivial,fun _ x hx=>by obtain ⟨b,_,rfl⟩:=List.mem_map.1 hx;simp⟩
theorem bels_wl (n:Nat) (ws:List Nat):bels n (wl ws)=true:=bels_iff.2 fun x hx=>by obtain ⟨b,_,rfl⟩:=List.mem_map.1 hx;rfl
theorem one_wl (l:List Nat):(∀ c∈wl l,c.one=true)↔True:=⟨fun _=>trivial,fun _ c hc=>by obtain ⟨b,_,rfl⟩:=List.mem_map.1 hc;rfl⟩
attribute [go_sem] length_wl one_wl
theorem aeqs_cons (x y:AVal) (a b:List AVal):aeqs (x::a) (y::b)=(aeq x y&&aeqs a b):=rfl
theorem aeq_int (k q:IntKind) (x y:Int):aeq (.int k x) (.int q y)=(x==y):=rfl
theorem skbs_cons (x y:AVal) (a b:List AVal):skbs (x::a) (y::b)=(skb x y&&skbs a b):=rfl
theorem skb_int (k:IntKind) (a b:Int):skb (.int k a) (.int k b)=true:=by simp [skb]
theorem skbs_app:∀ {a b c d:List AVal},skbs a b=true→skbs c d=true→skbs (a++c) (b++d)=true
 |[],[],_,_,_,h=>h
 |[],_::_,_,_,h,_=>by cases h
 |_::_,[],_,_,h,_=>by cases h
 |x::a,y::b,c,d,h,k=>by
  rw [skbs_cons,Bool.and_eq_true] at h
  rw [List.cons_append,List.cons_append,skbs_cons,h.1,skbs_app h.2 k]
  rfl
theorem aeqs_app:∀ {a b c d:List AVal},a.length=b.length→aeqs (a++c) (b++d)=(aeqs a b&&aeqs c d)
 |[],[],_,_,_=>by simp [aeqs]
 |[],_::_,_,_,h=>by cases h
 |_::_,[],_,_,h=>by cases h
 |x::a,y::b,c,d,h=>by
  rw [List.cons_append,List.cons_append,aeqs_cons,aeqs_cons,aeqs_app (by simpa using h),Bool.and_assoc]
theorem skbs_by:∀ {a b:List UInt8},a.length=b.length→skbs (bl a) (bl b)=true
 |[],[],_=>rfl
 |[],_::_,h=>by cases h
 |_::_,[],h=>by cases h
 |x::a,y::b,h=>by
  show skbs (.int .u8 x.toNat::bl a) (.int .u8 y.toNat::bl b)=true
  rw [skbs_cons,skb_int,skbs_by (by simpa using h)];rfl
theorem aeqs_by:∀ {a b:List UInt8},a.length=b.length→aeqs (bl a) (bl b)=decide (a=b)
 |[],[],_=>rfl
 |[],_::_,h=>by cases h
 |_::_,[],h=>by cases h
 |x::a,y::b,h=>by
  show aeqs (.int .u8 x.toNat::bl a) (.int .u8 y.toNat::bl b)=_
  rw [aeqs_cons,aeq_int,aeqs_by (by simpa using h)]
  by_cases h1:x=y
  ·subst h1;simp
  ·have:¬ ((x.toNat:Int)=(y.toNat:Int)):=fun e=>h1 (UInt8.toNat_inj.1 (by omega))
   simp [h1,this]
structure Pg where
 n:Int
 b:List UInt8
deriving DecidableEq
def Pg.Ok (p:Pg):Prop:=p.b.length=128
structure Rc where
 g:Int
 rd:Int
 inst:Nat
 regs:List Nat
 pc:Nat
 run:Bool
 w:Int
deriving DecidableEq
def Rc.Ok (r:Rc):Prop:=r.regs.length=8
end Go.Am
end
section
namespace Go.Am
open Go Go.Proofs
set_option maxHeartbeats 8000000
set_option maxRecDepth 100000
section
attribute [local irreducible] aC aL thenQ blockQ scopeQ ALoop AWp
attribute [go_sem] List.getD_cons_zero List.getD_cons_succ
attribute [go_sem] List.getElem?_append_left List.getElem?_append_right List.getElem?_set_ne List.getElem?_set_self List.set_append_left List.set_append_right List.length_set Nat.add_sub_cancel_left Nat.sub_self List.append_assoc List.cons_append List.nil_append List.getElem?_cons_zero List.getElem?_cons_succ List.set_cons_zero List.set_cons_succ ne_eq not_true_eq_false not_false_eq_true or_false or_self
structure Qn where
 k:Int
 key:List UInt8
 dom:Int
 data:List UInt8
deriving DecidableEq
structure It where
 q:Qn
 nl:Bool
 d:List UInt8
def Qn.Ok (q:Qn):Prop:=q.key.length=32
def It.Ok (i:It):Prop:=i.q.key.length=32∧i.d.length=32
def qC (q:Qn) (nl:Bool):List AVal:=.int .i64 q.k::(bl q.key++[.int .i64 q.dom,.sl 1 nl (bl q.data) .any])
def keyC (q:Qn):List AVal:=.int .i64 q.k::(bl q.key++[.int .i64 q.dom,.str q.data])
def itC (i:It):List AVal:=qC i.q i.nl++bl i.d
def gls {α:Type} (enc:α→List AVal) (l:List α):List AVal:=l.map fun x=>.agg (enc x)
theorem length_gls {α:Type} (enc:α→List AVal) (l:List α):(gls enc l).length=l.length:=by simp [gls]
theorem getD_gls {α:Type} (enc:α→List AVal) (l:List α) (z:α) (k:Nat) (w:AVal) (h:k<l.length):(gls enc l).getD k w = .agg (enc (l.getD k z)):=by simp [gls,List.getD,h]
def drawN (dr:List (List UInt8)) (n:Nat):List UInt8:=if n<dr.length then dr.getD n [] else putl n 8++(List.replicate 23 0++[1])
theorem length_drawN {dr:List (List UInt8)} (h:∀ x∈dr,x.length=32) (n:Nat):(drawN dr n).length=32:=by
 unfold drawN
 split
 ·next hn=>rw [show dr.getD n []=dr[n] by simp [List.getD,hn]];exact h _ (List.getElem_mem hn)
 ·simp [putl]
def orC (m:List UInt8) (nd:Bool) (dr:List (List UInt8)) (u:Int) (k:Nat) (L:List It) (l:Nat):List AVal :=
 .bool true::(bl m++[.sl 32 nd (gls bl dr) .any,.int .i64 u,.map k,.sl 67 L.isEmpty (gls itC L) (.own l)])
theorem o_drop {m:List UInt8} (h:m.length=32) (n:Nat) (r:List AVal):(bl m++r).drop (n+32)=r.drop n:=by
 rw [List.drop_append,List.drop_eq_nil_of_le (by rw [length_bl];omega),length_bl,h];simp
theorem o_take {m:List UInt8} (h:m.length=32) (r:List AVal):(bl m++r).take 32=bl m:=by
 rw [List.take_append_of_le_length (by rw [length_bl];omega),List.take_of_length_le (by rw [length_bl];omega)]
theorem o_get {m:List UInt8} (h:m.length=32) (n:Nat) (r:List AVal):(bl m++r)[n+32]? = r[n]?:=by
 rw [List.getElem?_append_right (by rw [length_bl];omega),length_bl,h];simp
theorem o_put {m:List UInt8} (h:m.length=32) (n:Nat) (r cs:List AVal) (hn:n+cs.length≤r.length):putCells (bl m++r) (n+32) cs=bl m++putCells r n cs:=by
 rw [putCells_eq _ _ _ (by rw [List.length_append,length_bl,h];omega),putCells_eq _ _ _ hn]
 rw [List.take_append,List.take_of_length_le (by rw [length_bl];omega),length_bl,h,List.drop_append,List.drop_eq_nil_of_le (by rw [length_bl];omega),length_bl,h]
 rw [show n+32-32=n by omega,show n+32+cs.length-32=n+cs.length by omega]
 simp
theorem o_put0 {bs:List AVal} {cs:List AVal} (h:bs.length=cs.length):putCells bs 0 cs=cs:=by
 rw [putCells_eq _ _ _ (by omega)];simp [← h]
theorem bl_one (l:List UInt8) (c:AVal) (h:c∈bl l):c.one=true:=by obtain ⟨b,_,rfl⟩:=List.mem_map.1 h;rfl
@[simp] theorem closed_bl_or2 (m:List UInt8) (P:AVal→Prop):(∀ x,x∈bl m∨P x→Closed x)↔∀ x,P x→Closed x:=by
 constructor
 ·exact fun h x hx=>h x (.inr hx)
 ·rintro h x (hx|hx)
  ·obtain ⟨b,_,rfl⟩:=List.mem_map.1 hx
   exact (closed_bv b).2 trivial
  ·exact h x hx
theorem eight {α:Type}:∀ {x:List α},x.length=8→∃ a0 a1 a2 a3 a4 a5 a6 a7,x=[a0,a1,a2,a3,a4,a5,a6,a7]
 |[a0,a1,a2,a3,a4,a5,a6,a7],_=>⟨a0,a1,a2,a3,a4,a5,a6,a7,rfl⟩
theorem bels_bl (n:Nat) (l:List UInt8):bels n (bl l)=true:=bels_iff.2 fun x hx=>by obtain ⟨b,_,rfl⟩:=List.mem_map.1 hx;rfl
theorem bels_app (n:Nat) (a b:List AVal):bels n (a++b)=(bels n a&&bels n b):=by
 rw [Bool.eq_iff_iff,Bool.and_eq_true,bels_iff,bels_iff,bels_iff]
 simp [or_imp,forall_and]
theorem bels_gls {α:Type} {enc:α→List AVal} {n:Nat} (h:∀ x,bels n (enc x)=true) (l:List α):bels n (gls enc l)=true:=bels_iff.2 fun x hx=>by obtain ⟨y,_,rfl⟩:=List.mem_map.1 hx;exact h y
theorem bels_gls_bl (n:Nat) (l:List (List UInt8)):bels n (gls bl l)=true:=bels_gls (bels_bl n) l
theorem bels_qC (n:Nat) (q:Qn) (nl:Bool):bels n (qC q nl)=true:=by simp [qC,bels,bel,bels_app,bels_bl,belT]
theorem bels_itC (n:Nat) (i:It):bels n (itC i)=true:=by simp [itC,bels_app,bels_qC,bels_bl]
theorem bels_gls_it (n:Nat) (l:List It):bels n (gls itC l)=true:=bels_gls (bels_itC n) l
theorem oracle_word (n:Nat) (hn:n<18446744073709551616):APure cx 126 [.int .u64 n] (.sl 1 false (bl (putl n 8)) .any):=by
 have hp:=wire_put n 8 (by decide) (by decide) (by simpa using hn)
 refine oP lq126 ?_
 have F:=True.intro
 repeat' (first|refine st1 F hp ?_|(refine cp F ?_ ?_<;>intro h)|refine zT F ?_ ?_)
 all_goals try exact cl True.intro
 all_goals try (simp (disch:=first|omega|(simp only [go_sem];omega)) only [go_sem,seval,reduceCtorEq])
 all_goals try simp
theorem oracle_draw {S:St} {o:Nat} {m:List UInt8} {nd:Bool} {dr:List (List UInt8)} {u k:Nat} {L:List It} {l:Nat} (hS:S[o]? = some (.cells (orC m nd dr u k L l) 108)) (hm:m.length=32) (hdr:∀ x∈dr,x.length=32) (hdl:dr.length≤1000000) (hu:u≤1000000) (hk:k<S.length) (hl:l<S.length) :
  ACall cx 101 [.ptr o 0] S (.agg (bl (drawN dr u))) (S.set o (.cells (orC m nd dr ((u:Int)+1) k L l) 108)):=by
 have ho:o<S.length:=(List.getElem?_eq_some_iff.1 hS).1
 have hw:ACall cx 101 [.ptr o 0] S (.agg (bl (drawN dr u))) (S.set o (.cells (orC m nd dr ((u:Int)+1) k L l) 108)++(if u<dr.length then [.cells (bl (drawN dr u)) 34] else [.cells (bl (drawN dr u)) 34,.cells (bl (drawN dr u)) 34])):=by
  have j1:=fun n r=>o_drop hm n r
  have j2:=fun n r=>o_get hm n r
  have j3:=fun n r cs h=>o_put hm n r cs h
  unfold orC at *
  by_cases h:u<dr.length
  ·rw [if_pos h]
   have e:drawN dr u=dr.getD u []:=by unfold drawN;rw [if_pos h]
   have g:=getD_gls bl dr [] u .any h
   have hx:(dr.getD u []).length=32:=by rw [show dr.getD u []=dr[u] by simp [List.getD,h]];exact hdr _ (List.getElem_mem h)
   rw [e]
   generalize dr.getD u []=x at *
   have h':((u:Nat):Int)<(dr.length:Int):=by omega
   have t1:(bl x).take 32=bl x:=List.take_of_length_le (by rw [length_bl];omega)
   refine oA lq101 ?_
   exact wk (pk10 @hS @j1 @j2 @j3 @h' @g @hx @t1 @o_put0 @length_gls)
  ·rw [if_neg h]
   have e:drawN dr u=putl u 8++(List.replicate 23 0++[1]):=by unfold drawN;rw [if_neg h]
   have hp:(putl u 8).length=8:=by simp [putl]
   have h':¬ ((u:Nat):Int)<(dr.length:Int):=by omega
   have hw:=oracle_word u (by omega)
   rw [e]
   generalize putl u 8=x at *
   obtain ⟨a0,a1,a2,a3,a4,a5,a6,a7,rfl⟩:=eight hp
   refine oA lq101 ?_
   have F:=(pk6 @hS @j1 @j2 @j3 @h' @length_gls)
   repeat' (first|refine st1 F hw ?_|(refine cp F ?_ ?_<;>intro h)|refine zT F ?_ ?_)
   all_goals try exact cl True.intro
   all_goals try (simp (disch:=first|omega|(simp only [go_sem];omega)) only [go_sem,seval,reduceCtorEq,hS,List.take_succ_cons,List.take_nil,List.take_zero])
   all_goals try simp [bl,bv,putCells,List.replicate,AVal.one]
 exact hw.keep cxG (by omega) (by simp) (by simp [bel,bels_bl]) fun i x hx=>by
  by_cases e:o=i
  ·subst e
   rw [List.getElem?_set_self ho] at hx
   have hx:=Option.some.inj hx
   subst hx
   right
   simp [belB,orC,bels,bel,bels_bl,bels_app,bels_gls_bl,bels_gls_it,belT,blt_iff,hk,hl]
  ·rw [List.getElem?_set_ne e] at hx
   exact .inl hx
end
end Go.Am
end
section
namespace Go.Am
open Go Go.Proofs
set_option maxHeartbeats 8000000
set_option maxRecDepth 100000
section
attribute [local irreducible] aC aL thenQ blockQ scopeQ ALoop AWp
theorem o_putP {a b r:List AVal} (h:a.length=b.length):putCells (a++r) 0 b=b++r:=by
 rw [putCells_eq _ _ _ (by rw [List.length_append];omega)]
 simp [← h]
theorem clone_by (nl:Bool) (x:List UInt8) (hx:nl=true→x=[]) (hl:x.length≤1000000000):APure cx 82 [.sl 1 nl (bl x) .any] (.sl 1 nl (bl x) .any):=by
 cases nl
 ·refine oP lq82 ?_
  have F:=True.intro
  repeat' (first|refine st F ?_|(refine cp F ?_ ?_<;>intro h)|refine zT F ?_ ?_)
  all_goals try exact cl True.intro
  all_goals try (simp (disch:=first|omega|(simp only [go_sem];omega)) only [go_sem,seval,reduceCtorEq])
  all_goals try simp
 ·rw [hx rfl]
  refine oP lq82 ?_
  have F:=True.intro
  repeat' (first|refine st F ?_|(refine cp F ?_ ?_<;>intro h)|refine zT F ?_ ?_)
  all_goals try exact cl True.intro
  all_goals try (simp (disch:=first|omega|(simp only [go_sem];omega)) only [go_sem,seval,reduceCtorEq])
  all_goals try simp
  all_goals rfl
def knE (L:List It):Ents:=L.zipIdx.map fun p=>(.agg (keyC p.1.q),.int .i64 (p.2:Nat),p.2)
theorem knE_app (L:List It) (i:It):knE (L++[i])=knE L++[(.agg (keyC i.q),.int .i64 (L.length:Nat),L.length)]:=by
 simp [knE,List.zipIdx_append]
theorem qkey_eq (p q:Qn) (hp:p.key.length=32) (hq:q.key.length=32):aeqs (keyC p) (keyC q)=decide (p=q):=by
 obtain ⟨a,b,c,d⟩:=p
 obtain ⟨a',b',c',d'⟩:=q
 simp only at hp hq
 unfold keyC
 simp only
 rw [aeqs_cons,aeq_int,aeqs_app (by rw [length_bl,length_bl];omega),aeqs_by (by omega)]
 show (a==a'&&(decide (b=b')&&(c==c'&&((d==d')&&true))))=_
 by_cases h1:a=a'<;>by_cases h2:b=b'<;>by_cases h3:c=c'<;>by_cases h4:d=d'<;>simp [h1,h2,h3,h4]
def WfL (L:List It):Prop:=∀ i∈L,i.q.key.length=32∧i.d.length=32
theorem WfL.app {L:List It} (h:WfL L) {i:It} (hi:i.q.key.length=32∧i.d.length=32):WfL (L++[i]):=fun j hj=>by
 rcases List.mem_append.1 hj with hj|hj
 ·exact h j hj
 ·rw [List.mem_singleton.1 hj];exact hi
theorem findK_kn {L:List It} (h:WfL L) (q:Qn) (hq:q.key.length=32):findK (.agg (keyC q)) (knE L)=L.findIdx? fun i=>decide (i.q=q):=by
 have key:∀ (L:List It) (n:Nat),WfL L→List.findIdx? (fun e:AVal × AVal × Nat=>aeqs (keyC q) e.1.cells) ((L.zipIdx n).map fun p=>((.agg (keyC p.1.q):AVal),(.int .i64 (p.2:Nat):AVal),p.2))=L.findIdx? fun i=>decide (i.q=q):=by
  intro L
  induction L with
  |nil=>intro n _;rfl
  |cons i L ih =>
   intro n h
   rw [List.zipIdx_cons,List.map_cons,List.findIdx?_cons,List.findIdx?_cons]
   show (if aeqs (keyC q) (keyC i.q)=true then _ else _)=_
   rw [qkey_eq q i.q hq (h i (List.mem_cons_self ..)).1,ih (n+1) fun j hj=>h j (List.mem_cons_of_mem _ hj)]
   by_cases e:i.q=q
   ·rw [if_pos (by simp [e]),if_pos (by simp [e])]
   ·rw [if_neg (by simp only [decide_eq_true_eq];exact fun h=>e h.symm),if_neg (by simp [e])]
 exact key L 0 h
theorem look_hit {L:List It} (h:WfL L) {q:Qn} (hq:q.key.length=32) {p:Nat} (hp:L.findIdx? (fun i=>decide (i.q=q))=some p) (z:AVal):lookV (.agg (keyC q)) (knE L) z = .int .i64 (p:Nat):=by
 unfold lookV
 rw [findK_kn h q hq,hp]
 have hl:p<L.length:=(List.findIdx?_eq_some_iff_getElem.1 hp).1
 show ((knE L).getD p entD).2.1=_
 simp [knE,List.getD,hl]
theorem look_miss {L:List It} (h:WfL L) {q:Qn} (hq:q.key.length=32) (hp:L.findIdx? (fun i=>decide (i.q=q))=none) (z:AVal):lookV (.agg (keyC q)) (knE L) z=z:=by
 unfold lookV
 rw [findK_kn h q hq,hp]
theorem set_miss {L:List It} (h:WfL L) {q:Qn} (hq:q.key.length=32) (hp:L.findIdx? (fun i=>decide (i.q=q))=none) (v:AVal) (c:Nat):setK (.agg (keyC q)) v (knE L) c = .mp (knE L++[(.agg (keyC q),v,c)]) (c+1):=by
 unfold setK
 rw [findK_kn h q hq,hp]
theorem key_fit (q:Qn) (hq:q.key.length=32):keyFit cx 116 (.agg (keyC q))=true:=by
 unfold keyFit
 rw [T116]
 have h1:flatT cx.P cx.T 20 116=true:=by kernel_rfl
 have h2:skbs (keyC q) ti116.zero=true:=by
  show skbs (.int .i64 q.k::(bl q.key++[.int .i64 q.dom,.str q.data])) (.int .i64 0::(bl (List.replicate 32 0)++[.int .i64 0,.str []]))=true
  rw [skbs_cons,skb_int,skbs_app (skbs_by (by simp [hq])) (by simp [skbs,skb])];rfl
 simp only [h1,AVal.cells,h2,Bool.true_and]
 rfl
theorem qkeys_kn {L:List It} (h:WfL L) (q:Qn) (hq:q.key.length=32):keysOk cx 116 (.agg (keyC q)) (knE L):=by
 refine ⟨key_fit q hq,fun e he=>?_⟩
 obtain ⟨p,hp,rfl⟩:=List.mem_map.1 he
 exact key_fit _ (h p.1 (List.fst_mem_of_mem_zipIdx hp)).1
theorem key_len {q:Qn} (h:q.key.length=32):(keyC q).length=35:=by simp [keyC,h]
theorem key_one (q:Qn):∀ c∈keyC q,c.one=true:=fun c hc=>by
 unfold keyC at hc
 simp only [List.mem_cons,List.mem_append,List.not_mem_nil,or_false] at hc
 rcases hc with rfl|hc|rfl|rfl
 ·rfl
 ·exact bl_one _ _ hc
 ·rfl
 ·rfl
theorem q_one (q:Qn) (nl:Bool):∀ c∈qC q nl,c.one=true:=fun c hc=>by
 unfold qC at hc
 simp only [List.mem_cons,List.mem_append,List.not_mem_nil,or_false] at hc
 rcases hc with rfl|hc|rfl|rfl
 ·rfl
 ·exact bl_one _ _ hc
 ·rfl
 ·rfl
theorem answer_hit {S:St} {o k l:Nat} {m:List UInt8} {nd:Bool} {dr:List (List UInt8)} {L:List It} (hS:S[o]? = some (.cells (orC m nd dr L.length k L l) 108)) (hK:S[k]? = some (.mp (knE L) L.length)) (hm:m.length=32)
  (hl:L.length≤900000) (hL:WfL L) (q:Qn) (nl:Bool) (hq:q.key.length=32) (hql:q.data.length≤1000000000) (fn:AVal) {p:Nat} (hp:L.findIdx? (fun i=>decide (i.q=q))=some p) {d:List UInt8} (hd:(L.getD p ⟨q,nl,[]⟩).d=d) :
  ACall cx 84 [.ptr o 0,.agg (qC q nl),fn] S (.agg (bl d)) S:=by
 have ho:o<S.length:=(List.getElem?_eq_some_iff.1 hS).1
 have hk:k<S.length:=(List.getElem?_eq_some_iff.1 hK).1
 have hpl:p<L.length:=(List.findIdx?_eq_some_iff_getElem.1 hp).1
 have hw:ACall cx 84 [.ptr o 0,.agg (qC q nl),fn] S (.agg (bl d)) (S++[.cells (qC q nl) 112,.cells (bl d) 34,.cells (keyC q) 116]):=by
  have j1:=fun n r=>o_drop hm n r
  have j2:=fun n r=>o_drop hq n r
  have j3:=fun r=>o_take hq r
  have k1:=findK_kn hL q hq
  have k2:=look_hit hL hq hp
  have k3:=qkeys_kn hL q hq
  have g:=getD_gls itC L ⟨q,nl,[]⟩ p .any hpl
  obtain ⟨h1,h2⟩:=hL (L.getD p ⟨q,nl,[]⟩) (by rw [show L.getD p ⟨q,nl,[]⟩=L[p] by simp [List.getD,hpl]];exact List.getElem_mem hpl)
  rw [hp] at k1
  rw [hd] at h2
  generalize L.getD p ⟨q,nl,[]⟩=it at *
  have g0:itC it = .int .i64 it.q.k::(bl it.q.key++(.int .i64 it.q.dom :: .sl 1 it.nl (bl it.q.data) .any::bl d)):=by
   unfold itC qC
   rw [hd]
   simp
  rw [g0] at g
  have g1:=fun n r=>o_drop h1 n r
  have t1:(bl d).take 32=bl d:=List.take_of_length_le (by rw [length_bl];omega)
  have kl:=key_len hq
  have kt:(keyC q).take 35=keyC q:=List.take_of_length_le (by omega)
  have ko:=key_one q
  have qone:∀ c∈bl q.key++[.int .i64 q.dom,.sl 1 nl (bl q.data) .any],c.one=true:=fun c hc=>q_one q nl c (List.mem_cons_of_mem _ hc)
  have hz:(.int .i64 q.k::(bl q.key++[.int .i64 q.dom,.str q.data]))=keyC q:=rfl
  unfold qC orC at *
  refine oA lq84 ?_
  have F:=(pk12 @hS @hK @j1 @j2 @j3 @hz @k1 @k2 @k3 @g @g1 (pk10 @h1 @h2 @hq @t1 @kl @kt @o_put0 @o_putP (o_put hq) @length_gls))
  repeat' (first|refine st F ?_|(refine cp F ?_ ?_<;>intro h)|refine zT F ?_ ?_|refine mLT F ?_ ?_|refine mUT F ?_ ?_|refine mDT F ?_ ?_|(refine gP F ?_ ?_<;>(intro h;first|(exfalso;omega)|(simp only [h,decide_true,decide_false,not_true,not_false_iff])))|(refine gN F ?_ ?_<;>(intro h;first|(exfalso;omega)|(simp only [h,decide_true,decide_false,not_true,not_false_iff]))))
  all_goals try exact cl F
  all_goals try exact ⟨trivial,ko⟩
  all_goals try exact ko
  all_goals try exact fun _ _ h=>h.elim
  all_goals try exact qone
  all_goals try exact k3
  all_goals try (have t3:d.take 32=d:=List.take_of_length_le (by omega))
  all_goals try simp [t3,h2]
  all_goals try exact fun c hc=>bl_one d c hc
 exact hw.keep cxG (by omega) rfl (by simp [bel,bels_bl]) fun i x hx=>.inl hx
end
end Go.Am
end
section
namespace Go.Am
open Go Go.Proofs
set_option maxHeartbeats 8000000
set_option maxRecDepth 100000
section
attribute [local irreducible] aC aL thenQ blockQ scopeQ ALoop AWp
theorem o_put2 {a b r s:List AVal} (h:a.length=b.length) (hs:s.length≤r.length):putCells (a++r) 0 (b++s)=b++putCells r 0 s:=by
 rw [putCells_eq _ _ _ (by rw [List.length_append,List.length_append];omega),putCells_eq _ _ _ (by omega)]
 simp only [List.take_zero,List.nil_append,Nat.zero_add,List.length_append,List.append_assoc]
 rw [List.drop_append,List.drop_eq_nil_of_le (by omega),show b.length+s.length-a.length=s.length by omega]
 simp
theorem it_exp (q:Qn) (nl:Bool) (d:List UInt8):itC ⟨q,nl,d⟩ = .int .i64 q.k::(bl q.key++(.int .i64 q.dom :: .sl 1 nl (bl q.data) .any::bl d)):=by
 unfold itC qC
 simp
theorem gls_app {α:Type} (enc:α→List AVal) (l:List α) (x:α):gls enc (l++[x])=gls enc l++[.agg (enc x)]:=by simp [gls]
theorem set_o3 {S:St} {o k l:Nat} (h1:o≠k) (h2:o≠l) (A B C' D:ABox):(((S.set o A).set k B).set l C').set o D=((S.set k B).set l C').set o D:=by
 rw [List.set_comm _ _ h1,List.set_comm _ _ h2,List.set_set]
theorem answer_miss {S:St} {o k l:Nat} {m:List UInt8} {nd:Bool} {dr:List (List UInt8)} {L:List It} (hS:S[o]? = some (.cells (orC m nd dr L.length k L l) 108)) (hK:S[k]? = some (.mp (knE L) L.length)) (hG:S[l]? = some (.grow L.length 67 114)) (hm:m.length=32)
  (hdr:∀ x∈dr,x.length=32) (hdl:dr.length≤1000000) (hl:L.length≤900000) (hL:WfL L) (q:Qn) (nl:Bool) (hq:q.key.length=32) (hql:q.data.length≤1000000000) (hnl:nl=true→q.data=[]) (fn:AVal) (hp:L.findIdx? (fun i=>decide (i.q=q))=none) :
  ACall cx 84 [.ptr o 0,.agg (qC q nl),fn] S (.agg (bl (drawN dr L.length)))
   (((S.set k (.mp (knE (L++[⟨q,nl,drawN dr L.length⟩])) (L.length+1))).set l (.grow (L.length+1) 67 114)).set o (.cells (orC m nd dr ((L.length:Int)+1) k (L++[⟨q,nl,drawN dr L.length⟩]) l) 108)):=by
 have ho:o<S.length:=(List.getElem?_eq_some_iff.1 hS).1
 have hk:k<S.length:=(List.getElem?_eq_some_iff.1 hK).1
 have hlS:l<S.length:=(List.getElem?_eq_some_iff.1 hG).1
 have n1:o≠k:=by rintro rfl;rw [hS] at hK;cases hK
 have n2:o≠l:=by rintro rfl;rw [hS] at hG;cases hG
 have n3:k≠l:=by rintro rfl;rw [hK] at hG;cases hG
 have hx:=length_drawN hdr L.length
 have hw:ACall cx 84 [.ptr o 0,.agg (qC q nl),fn] S (.agg (bl (drawN dr L.length))) ((((S.set k (.mp (knE (L++[⟨q,nl,drawN dr L.length⟩])) (L.length+1))).set l (.grow (L.length+1) 67 114)).set o (.cells (orC m nd dr ((L.length:Int)+1) k (L++[⟨q,nl,drawN dr L.length⟩]) l) 108)) ++
   [.cells (qC q nl) 112,.cells (bl (drawN dr L.length)) 34,.cells (keyC q) 116,.cells (bl (drawN dr L.length)) 34]):=by
  have hD:=fun R:St=>oracle_draw (S:=S++R) (o:=o) (u:=L.length) (by rw [List.getElem?_append_left ho];exact hS) hm hdr hdl (by omega) (by rw [List.length_append];omega) (by rw [List.length_append];omega)
  have hC:=clone_by nl q.data hnl hql
  have j1:=fun n r=>o_drop hm n r
  have j2:=fun n r=>o_drop hq n r
  have j3:=fun r=>o_take hq r
  have j6:∀ a b:AVal,(bl q.key++[a,b]).take 34=bl q.key++[a,b]:=fun a b=>List.take_of_length_le (by rw [List.length_append,length_bl,hq];simp)
  have k1:=findK_kn hL q hq
  have k2:=look_miss hL hq hp
  have k3:=qkeys_kn hL q hq
  have k4:=set_miss hL hq hp
  rw [hp] at k1
  have kl:=key_len hq
  have kt:(keyC q).take 35=keyC q:=List.take_of_length_le (by omega)
  have ko:=key_one q
  have qone:∀ c∈bl q.key++[.int .i64 q.dom,.sl 1 nl (bl q.data) .any],c.one=true:=fun c hc=>q_one q nl c (List.mem_cons_of_mem _ hc)
  have hz:(.int .i64 q.k::(bl q.key++[.int .i64 q.dom,.str q.data]))=keyC q:=rfl
  rw [knE_app]
  rw [← set_o3 (S:=S) n1 n2 (.cells (orC m nd dr ((L.length:Int)+1) k L l) 108)]
  unfold orC qC at *
  rw [gls_app,it_exp]
  generalize drawN dr L.length=x at *
  have j4:(bl x).take 32=bl x:=List.take_of_length_le (by rw [length_bl];omega)
  have j5:x.take 32=x:=List.take_of_length_le (by omega)
  have he:(L++[(⟨q,nl,x⟩ : It)]).isEmpty=false:=by simp
  rw [he]
  clear he
  refine oA lq84 ?_
  have F:=(pk12 @hS @hK @hG @j1 @j2 @j3 @j4 @j5 @j6 @hz @k1 (pk12 @k2 @k3 @k4 @hq @hx @kl @kt @o_put0 @o_putP @o_put2 (o_put hq) (pk2 (o_put hm) @length_gls)))
  repeat' (first|refine st2 F hD hC ?_|(refine cp F ?_ ?_<;>intro h)|refine zT F ?_ ?_|refine mLT F ?_ ?_|refine mUT F ?_ ?_|refine mDT F ?_ ?_|(refine gP F ?_ ?_<;>(intro h;first|(exfalso;omega)|(simp only [h,decide_true,decide_false,not_true,not_false_iff])))|(refine gN F ?_ ?_<;>(intro h;first|(exfalso;omega)|(simp only [h,decide_true,decide_false,not_true,not_false_iff]))))
  all_goals try exact cl F
  all_goals try exact ⟨trivial,ko⟩
  all_goals try exact ko
  all_goals try exact fun _ _ h=>h.elim
  all_goals try exact qone
  all_goals try exact k3
  all_goals try exact ⟨fun _ _ h=>h.elim,qone⟩
  all_goals (intro c hc;simp only [List.mem_append,List.mem_cons] at hc;rcases hc with h|rfl|rfl|h;exact bl_one _ _ h;rfl;rfl;exact bl_one _ _ h)
 refine hw.keep cxG (by omega) (by simp) (by simp [bel,bels_bl]) fun i x' hx'=>?_
 by_cases e:o=i
 ·subst e
  rw [List.getElem?_set_self (by simpa using ho)] at hx'
  rw [← Option.some.inj hx']
  right
  simp [belB,orC,bels,bel,bels_bl,bels_app,bels_gls_bl,bels_gls_it,belT,blt_iff,hk,hlS]
 ·rw [List.getElem?_set_ne e] at hx'
  by_cases e2:l=i
  ·subst e2
   rw [List.getElem?_set_self (by simpa using hlS)] at hx'
   rw [← Option.some.inj hx']
   exact .inr rfl
  ·rw [List.getElem?_set_ne e2] at hx'
   by_cases e3:k=i
   ·subst e3
    rw [List.getElem?_set_self hk] at hx'
    rw [← Option.some.inj hx']
    right
    refine belM_iff fun e he=>?_
    obtain ⟨p,hp,rfl⟩:=List.mem_map.1 he
    exact ⟨by simp [bel,keyC,bels,bels_app,bels_bl],rfl⟩
   ·rw [List.getElem?_set_ne e3] at hx'
    exact .inl hx'
end
end Go.Am
end
