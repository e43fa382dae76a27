/- The abstract layer: maps. -/
import Derived.Test.YteemcehaekffeaaGreatAmEq
import Derived.RangeFuncOwn
import Derived.Maps.RangeRun
import Derived.Lib.OthersKept
set_option linter.unusedVariables false
set_option linter.unusedSimpArgs false
namespace Go.Am
open Go
noncomputable section
open Classical
structure Out where
 sd:Prop
 r:AVal
 S:St
abbrev Ents:=List (AVal × AVal × Nat)
def aeq:AVal→AVal→Bool
 |.int _ a,.int _ b=>a==b
 |.bool a,.bool b=>a==b
 |.str a,.str b=>a==b
 |_,_=>false
def aeqs:List AVal→List AVal→Bool
 |[],[]=>true
 |a::as,b::bs=>aeq a b&&aeqs as bs
 |_,_=>false
theorem aeq_iff {a b z:AVal} (h:skb a z=true) (h':skb b z=true):aeq a b=true↔a=b:=by
 cases z<;>cases a<;>cases b<;>simp_all [skb,aeq]
theorem aeqs_iff:∀ {xs ys zs:List AVal},skbs xs zs=true→skbs ys zs=true→(aeqs xs ys=true↔xs=ys)
 |[],[],_,_,_=>by simp [aeqs]
 |[],_::_,[],_,h=>by simp [skbs] at h
 |[],_::_,_::_,h,_=>by simp [skbs] at h
 |_::_,[],[],h,_=>by simp [skbs] at h
 |_::_,[],_::_,_,h=>by simp [skbs] at h
 |_::_,_::_,[],h,_=>by simp [skbs] at h
 |a::as,b::bs,z::zs,h,h'=>by
  simp only [skbs,Bool.and_eq_true] at h h'
  simp only [aeqs,Bool.and_eq_true,List.cons.injEq,aeq_iff h.1 h'.1,aeqs_iff h.2 h'.2]
theorem aeqs_decide {xs ys zs:List AVal} (h:skbs xs zs=true) (h':skbs ys zs=true):decide (xs=ys)=aeqs xs ys:=by
 rw [Bool.eq_iff_iff,decide_eq_true_eq,aeqs_iff h h']
def isAggV:AVal→Bool
 |.agg _=>true
 |_=>false
def keyFit (C:Cx) (kt:TypeId) (k:AVal):Bool :=
 match C.T kt with
 |some i=>flatT C.P C.T 20 kt&&skbs k.cells i.zero&&(i.isAgg==isAggV k)
 |none=>false
def findK (k:AVal) (es:Ents):Option Nat:=es.findIdx? fun e=>aeqs k.cells e.1.cells
section
variable {C:Cx} {E:Env}
theorem keyFit_spec {kt:TypeId} {k:AVal} (h:keyFit C kt k=true):∃ i,C.T kt=some i∧flatT C.P C.T 20 kt=true∧skbs k.cells i.zero=true∧i.isAgg=isAggV k:=by
 unfold keyFit at h
 split at h
 ·next i hi =>
  simp only [Bool.and_eq_true,beq_iff_eq] at h
  exact ⟨i,hi,h.1.1,h.1.2,h.2⟩
 ·cases h
theorem ofCells_cells {i:TI} {k:AVal} (h:i.isAgg=isAggV k):ofCells i k.cells=k:=by
 unfold ofCells
 rw [h]
 cases k<;>simp [isAggV,AVal.cells]
theorem andThen_unit {r:Result PUnit} {w:World} (h:r = .ok () w):(r.andThen fun _ w'=>(Result.ok () w':Result Unit)) = .ok () w:=by rw [h];rfl
theorem chk_ok (hT:TOk C.P C.T):∀ (n:Nat) (t:TypeId) (i:TI),C.T t=some i→flatT C.P C.T n t=true→∀ (E:Env) (em:Bool) (d:Nat) (xs:List AVal) (x:Value),skbs xs i.zero=true→R E (ofCells i xs) x →
  (Instr.checkKey em (d+n) t x).run C.P E.w = .ok () E.w:=by
 intro n
 induction n with
 |zero=>intro t i _ h;simp [flatT] at h
 |succ n IH =>
  intro t i ht hf E em d xs x zx hx
  have hi:=hT.ok t i ht
  have hzl:=zero_len hi
  have hlx:xs.length=i.size:=by rw [← hzl];exact (skbs_iff.1 zx).1
  have hu:=hi.1
  unfold flatT at hf
  simp only [ht] at hf
  have scalar:i.isAgg=false→∀ (z:AVal),i.zero=[z]→∃ a,xs=[a]∧skb a z=true∧R E a x:=by
   intro hag z hz
   rw [hz] at zx
   obtain ⟨a,rfl⟩:=List.length_eq_one_iff.1 (skbs_iff.1 zx).1
   exact ⟨a,rfl,by simpa [skbs] using zx,by simpa [ofCells,hag] using hx⟩
  rw [show d+(n+1)=(d+n)+1 from rfl,Instr.checkKey]
  simp only [Sem.run_bind,run_underlying hu,Result.andThen_ok]
  cases hd:i.d<;>simp only [hd] at hf<;>try (cases hf;done)
  case bool=>simp
  case int k=>simp
  case string=>simp
  case array m e =>
   have hag:i.isAgg=true:=by simp [TI.isAgg,hd,isAggD]
   simp only [ofCells,hag,if_true] at hx
   split at hf
   ·next j hj =>
    simp only [Bool.and_eq_true,decide_eq_true_eq,beq_iff_eq,List.all_eq_true] at hf
    obtain ⟨⟨⟨h1,h2⟩,h3⟩,h4⟩:=hf
    have hje:=hT.ok e j hj
    obtain ⟨_,inf,_,hinf,hs,_,_,_,_,_,_,_⟩:=hje
    have hje:=hT.ok e j hj
    cases hx with
    |agg _ as l1 rx =>
     simp only [Std.Legacy.Range.forIn_eq_forIn_range',Std.Legacy.Range.size,Nat.sub_zero,Nat.add_one_sub_one,Nat.div_one]
     have hall:∀ k∈List.range' 0 m,k<m:=fun k hk=>by simp [List.mem_range'] at hk;omega
     generalize List.range' 0 m=is at hall
     rw [Sem.run_bind]
     refine andThen_unit ?_
     induction is with
     |nil=>simp
     |cons k is ih =>
      have hk:=hall k (List.mem_cons_self ..)
      have hle:k*j.size+j.size≤xs.length:=by
       rw [hlx,h2]
       have:(k+1)*j.size≤m*j.size:=Nat.mul_le_mul_right _ hk
       rw [Nat.add_mul] at this;omega
      obtain ⟨a,pa,ra⟩:=run_part (P:=C.P) hje l1 rx (k*j.size) hle E.w
      have zk:skbs ((xs.drop (k*j.size)).take j.size) j.zero=true:=skbs_trans' (skbs_part zx _ _) (h4 k (List.mem_range.2 hk))
      have hc:=IH e j hj h1 E em d _ a zk ra
      simp only [List.forIn_cons,Sem.run_bind,run_sizeOf hinf,hs,Result.andThen_ok,pa,hc,Sem.run_pure]
      exact ih (fun y hy=>hall y (List.mem_cons_of_mem _ hy))
   ·cases hf
  case struct fs =>
   have hag:i.isAgg=true:=by simp [TI.isAgg,hd,isAggD]
   simp only [ofCells,hag,if_true] at hx
   simp only [Bool.and_eq_true,List.all_eq_true] at hf
   obtain ⟨⟨_,hf1⟩,_⟩:=hf
   cases hx with
   |agg _ as l1 rx =>
    simp only []
    rw [← Array.forIn_toList]
    generalize fs.toList=l at hf1
    rw [Sem.run_bind]
    refine andThen_unit ?_
    induction l with
    |nil=>simp
    |cons f l ih =>
     have hff:=hf1 f (List.mem_cons_self ..)
     simp only [bne_iff_ne,ne_eq] at hff
     obtain ⟨⟨hn,hfl⟩,hm⟩:=hff
     cases hj:C.T f.type with
     |none=>simp [hj] at hm
     |some j =>
      simp only [hj,Bool.and_eq_true,decide_eq_true_eq] at hm
      obtain ⟨a,pa,ra⟩:=run_part (P:=C.P) (hT.ok _ _ hj) l1 rx f.offset (by omega) E.w
      have zk:skbs ((xs.drop f.offset).take j.size) j.zero=true:=skbs_trans' (skbs_part zx _ _) hm.2
      have hc:=IH f.type j hj hfl E em d _ a zk ra
      simp only [List.forIn_cons,Sem.run_bind,ne_eq,hn,not_false_eq_true,if_true,pa,Result.andThen_ok,hc,Sem.run_pure]
      exact ih (fun g hg=>hf1 g (List.mem_cons_of_mem _ hg))
theorem ba_beq (a b:ByteArray):(a==b)=(a.data==b.data):=by cases a;cases b;rfl
theorem bytes_beq (b:ByteArray):(b==b)=true:=by rw [ba_beq];exact beq_self_eq_true _
theorem ba_list (a b:ByteArray):(a==b)=(a.data.toList==b.data.toList):=by
 rw [ba_beq,Bool.eq_iff_iff,beq_iff_eq,beq_iff_eq]
 exact ⟨fun e=>by rw [e],fun e=>Array.toList_inj.1 e⟩
theorem same_cell {a z:AVal} {x y:Value} (h:skb a z=true) (hx:R E a x) (hy:R E a y) (n:Nat):Instr.sameBits n x y=true:=by
 cases z<;>cases a<;>simp [skb] at h
 case int k m k' m'=>rw [hx.int_inv,hy.int_inv];cases n<;>simp [Instr.sameBits]
 case bool b b'=>rw [hx.bool_inv,hy.bool_inv];cases n<;>simp [Instr.sameBits]
 case str s s' =>
  cases hx with
  |str b1 _ h1 =>
   cases hy with
   |str b2 _ h2 =>
    have:b1=b2:=by
     cases b1;cases b2
     simp only at h1 h2
     congr
     exact Array.toList_inj.1 (h1.trans h2.symm)
    subst this
    cases n<;>simp only [Instr.sameBits]<;>exact bytes_beq b1
theorem same_key {i:TI} {k:AVal} {x y:Value} (h:skbs k.cells i.zero=true) (hx:R E k x) (hy:R E k y):Instr.sameBits 10000 x y=true:=by
 by_cases ha:∃ cs,k = .agg cs
 ·obtain ⟨cs,rfl⟩:=ha
  simp only [AVal.cells] at h
  cases hx with
  |agg _ as l1 rx =>
   cases hy with
   |agg _ bs l2 ry =>
    simp only [Instr.sameBits,Bool.and_eq_true,beq_iff_eq,List.all_eq_true]
    refine ⟨by omega,fun p hp=>?_⟩
    obtain ⟨j,hj,rfl⟩:=List.getElem_of_mem hp
    simp only [List.length_zip,Array.length_toList] at hj
    simp only [List.getElem_zip,Array.getElem_toList]
    have hjc:j<cs.length:=by omega
    have r1:=rx j hjc
    have r2:=ry j hjc
    have e1:as.getD j undef=as[j]'(by omega):=by rw [Array.getD_eq_getD_getElem?,Array.getElem?_eq_getElem (by omega)];rfl
    have e2:bs.getD j undef=bs[j]'(by omega):=by rw [Array.getD_eq_getD_getElem?,Array.getElem?_eq_getElem (by omega)];rfl
    rw [e1] at r1
    rw [e2] at r2
    have hz:=skbs_iff.1 h
    exact same_cell (hz.2 j hjc (by omega)) r1 r2 _
 ·have e:k.cells=[k]:=by cases k<;>first|rfl|exact absurd ⟨_,rfl⟩ ha
  rw [e] at h
  have hz:=skbs_iff.1 h
  have hl:i.zero.length=1:=by simpa using hz.1.symm
  exact same_cell (hz.2 0 (by simp) (by omega)) hx hy _
theorem key_eq (hC:C.Ok) {kt:TypeId} {k k':AVal} {x y:Value} (h:keyFit C kt k=true) (h':keyFit C kt k'=true) (hx:R E k x) (hy:R E k' y) :
  (Op.equal kt x y).run C.P E.w = .ok (aeqs k.cells k'.cells) E.w∧∀ d,C.P.underlying kt=some d→∀ b,Instr.sameNow d x y=some b→b=aeqs k.cells k'.cells:=by
 obtain ⟨i,hi,hf,hz,ha⟩:=keyFit_spec h
 obtain ⟨i',hi',_,hz',ha'⟩:=keyFit_spec h'
 obtain rfl:i'=i:=by rw [hi] at hi';exact (Option.some.inj hi').symm
 have e1:R E (ofCells i' k.cells) x:=by rw [ofCells_cells ha];exact hx
 have e2:R E (ofCells i' k'.cells) y:=by rw [ofCells_cells ha'];exact hy
 have he:=eq_ok hC.T hC.cells 20 kt i' hi hf E (Op.maxDepth-20) k.cells k'.cells x y hz hz' e1 e2
 rw [aeqs_decide hz hz'] at he
 refine ⟨?_,fun d hd b hb=>?_⟩
 ·exact he
 ·have sing:∀ {v:AVal},isAggV v=false→v.cells=[v]:=fun {v} h=>by cases v<;>first|rfl|(simp [isAggV] at h)
  by_cases hag:i'.isAgg=true
  ·rw [hag] at ha
   cases k<;>simp [isAggV] at ha
   cases hx
   cases d<;>simp [Instr.sameNow] at hb
  ·have hag:i'.isAgg=false:=by simpa using hag
   rw [hag] at ha ha'
   rw [sing ha.symm] at hz ⊢
   rw [sing ha'.symm] at hz' ⊢
   obtain ⟨z,hzz⟩:=List.length_eq_one_iff.1 (skbs_iff.1 hz).1.symm
   rw [hzz] at hz hz'
   simp only [skbs,Bool.and_true] at hz hz'
   cases z<;>cases k<;>simp [skb] at hz<;>cases k'<;>simp [skb] at hz'
   ·rw [hx.int_inv,hy.int_inv] at hb
    cases d<;>simp [Instr.sameNow] at hb
    simp [aeqs,aeq,← hb.2]
   ·rw [hx.bool_inv,hy.bool_inv] at hb
    cases d<;>simp [Instr.sameNow] at hb
    simp [aeqs,aeq,← hb]
   ·cases hx with
    |str b1 _ h1 =>
     cases hy with
     |str b2 _ h2 =>
      cases d<;>simp only [Instr.sameNow,Option.some.injEq,reduceCtorEq] at hb
      rw [← hb,← h1,← h2]
      simp only [aeqs,aeq,Bool.and_true]
      exact ba_list _ _
theorem findAsking_ok {kt:TypeId} {x:Value} {w:World} {p:MapEntry→Bool}:∀ (l:List MapEntry) (i:Nat),(∀ e∈l,(Op.equal kt x e.key).run C.P w = .ok (p e) w) →
  (Instr.findAsking kt x l i).run C.P w = .ok ((l.findIdx? p).bind fun j=>(l[j]?).map fun e=>(i+j,e.val)) w:=by
 intro l
 induction l with
 |nil=>intro i _;simp [Instr.findAsking]
 |cons e l ih =>
  intro i h
  simp only [Instr.findAsking,Sem.run_bind,h e (List.mem_cons_self ..),Result.andThen_ok]
  cases hp:p e with
  |true=>simp [List.findIdx?_cons,hp]
  |false =>
   simp only [Bool.false_eq_true,if_false]
   rw [ih (i+1) (fun e' he=>h e' (List.mem_cons_of_mem _ he))]
   simp only [List.findIdx?_cons,hp,Bool.false_eq_true,if_false]
   cases l.findIdx? p with
   |none=>rfl
   |some j=>simp;congr 1;congr 1;funext e;congr 1;omega
theorem findNow_ok {d:TypeDesc} {x:Value} {p:MapEntry→Bool}:∀ (l:List MapEntry) (i:Nat) (r:Option (Nat × Value)),(∀ e∈l,∀ b,Instr.sameNow d x e.key=some b→b=p e)→Instr.findNow d x l i=some r →
  r=(l.findIdx? p).bind fun j=>(l[j]?).map fun e=>(i+j,e.val):=by
 intro l
 induction l with
 |nil=>intro i r _ h;simp [Instr.findNow] at h;simp [← h]
 |cons e l ih =>
  intro i r h hr
  simp only [Instr.findNow] at hr
  have he:=h e (List.mem_cons_self ..)
  split at hr
  ·next hs =>
   have:=he _ hs
   injection hr with hr
   subst hr
   simp [List.findIdx?_cons,← this]
  ·next hs =>
   have hp:=he _ hs
   rw [ih (i+1) r (fun e' he=>h e' (List.mem_cons_of_mem _ he)) hr]
   simp only [List.findIdx?_cons,← hp,Bool.false_eq_true,if_false]
   cases l.findIdx? p with
   |none=>rfl
   |some j=>simp;congr 1;funext e;congr 1;omega
  ·cases hr
theorem find_ok (hC:C.Ok) {kt:TypeId} {k:AVal} {x:Value} {es:Ents} {ms:Array MapEntry} (hk:keyFit C kt k=true) (hes:∀ e∈es,keyFit C kt e.1=true) (hx:R E k x) (hl:ms.size=es.length)
  (hm:∀ j (h:j<es.length),R E es[j].1 (ms.getD j default).key) :
  (Instr.findKey kt x ms.toList).run C.P E.w = .ok ((findK k es).bind fun j=>(ms[j]?).map fun e=>(j,e.val)) E.w:=by
 obtain ⟨i,hi,_⟩:=keyFit_spec hk
 have hu:=(hC.T.ok kt i hi).1
 let p:MapEntry→Bool:=fun e=>(Classical.epsilon fun b=>(Op.equal kt x e.key).run C.P E.w = .ok b E.w)
 have hp:∀ j (h:j<ms.size),(Op.equal kt x ms[j].key).run C.P E.w = .ok (aeqs k.cells (es[j]'(by omega)).1.cells) E.w∧∀ d,C.P.underlying kt=some d→∀ b,Instr.sameNow d x ms[j].key=some b→b=aeqs k.cells (es[j]'(by omega)).1.cells:=by
  intro j h
  have hj:j<es.length:=by omega
  have r:=hm j hj
  have e:ms.getD j default=ms[j]:=by rw [Array.getD_eq_getD_getElem?,Array.getElem?_eq_getElem h];rfl
  rw [e] at r
  exact key_eq hC hk (hes _ (List.getElem_mem hj)) hx r
 have hpe:∀ j (h:j<ms.size),p ms[j]=aeqs k.cells (es[j]'(by omega)).1.cells:=by
  intro j h
  have h1:=(hp j h).1
  have h2:=Classical.epsilon_spec (p:=fun b=>(Op.equal kt x ms[j].key).run C.P E.w = .ok b E.w) ⟨_,h1⟩
  have h3:(Op.equal kt x ms[j].key).run C.P E.w = .ok (p ms[j]) E.w:=h2
  rw [h1] at h3
  injection h3 with h3
  exact h3.symm
 have hidx:ms.toList.findIdx? p=findK k es:=by
  unfold findK
  have e1:ms.toList.map p=es.map fun e=>aeqs k.cells e.1.cells:=by
   apply List.ext_getElem (by simp [hl])
   intro j h1 h2
   simp only [List.getElem_map,Array.getElem_toList]
   exact hpe j (by simpa using h1)
  have e2:∀ {α:Type} (l:List α) (q:α→Bool),l.findIdx? q=(l.map q).findIdx? id:=fun l q=>by simp [List.findIdx?_map]
  rw [e2,e1,← e2]
 have hmem:∀ e∈ms.toList,(Op.equal kt x e.key).run C.P E.w = .ok (p e) E.w∧∀ b,Instr.sameNow i.d x e.key=some b→b=p e:=by
  intro e he
  obtain ⟨j,hj,rfl⟩:=List.getElem_of_mem he
  have hj':j<ms.size:=by simpa using hj
  simp only [Array.getElem_toList]
  rw [hpe j hj']
  exact ⟨(hp j hj').1,(hp j hj').2 _ hu⟩
 simp only [Instr.findKey,Sem.run_bind,run_underlying hu,Result.andThen_ok]
 rw [← hidx]
 have e3:∀ (o:Option Nat),(o.bind fun j=>(ms.toList[j]?).map fun e=>(0+j,e.val))=o.bind fun j=>(ms[j]?).map fun e=>(j,e.val):=fun o=>by cases o<;>simp
 cases hn:Instr.findNow i.d x ms.toList 0 with
 |some r =>
  simp only
  rw [Sem.run_pure,findNow_ok ms.toList 0 r (fun e he=>(hmem e he).2) hn,e3]
 |none =>
  simp only
  rw [findAsking_ok (p:=p) ms.toList 0 (fun e he=>(hmem e he).1),e3]
theorem check_ok (hC:C.Ok) {kt:TypeId} {k:AVal} {x:Value} (hk:keyFit C kt k=true) (hx:R E k x) (em:Bool):(Instr.checkKey em 10000 kt x).run C.P E.w = .ok () E.w:=by
 obtain ⟨i,hi,hf,hz,ha⟩:=keyFit_spec hk
 exact chk_ok hC.T 20 kt i hi hf E em 9980 k.cells x hz (by rw [ofCells_cells ha];exact hx)
def entD:AVal × AVal × Nat:=(.any,.any,0)
def lookV (k:AVal) (es:Ents) (z:AVal):AVal:=match findK k es with
 |some p=>(es.getD p entD).2.1
 |none=>z
def keysOk (C:Cx) (kt:TypeId) (k:AVal) (es:Ents):Prop:=keyFit C kt k=true∧∀ e∈es,keyFit C kt e.1=true
def tagE (es:List (AVal × AVal)):Ents:=es.map fun e=>(e.1,e.2,0)
def encC:AVal→Nat
 |.int _ n=>n.toNat
 |.bool b=>bif b then 1 else 0
 |.str s=>s.foldl (fun a b=>a*256+b.toNat) 1
 |_=>0
def encN (k:AVal):Nat:=k.cells.foldl (fun a c=>a*18446744073709551616+encC c) 0
def sins (k v:AVal):List (AVal × AVal)→List (AVal × AVal)
 |[]=>[(k,v)]
 |e::es=>bif Nat.blt (encN k) (encN e.1) then (k,v)::e::es else e::sins k v es
def freshX (k:AVal) (es:List (AVal × AVal)):Bool:=es.all fun e => !Nat.beq (encN e.1) (encN k)
def oneX (k:AVal) (es:List (AVal × AVal)):Bool:=Nat.ble (es.filter fun e=>aeqs k.cells e.1.cells).length 1
def boxX:Option ABox→Option (List (AVal × AVal))
 |some (.mpx es _)=>some es
 |some (.frz (some es))=>some es
 |_=>none
def aLookup (C:Cx) (S:St) (t:TypeId) (x k:AVal) (ok:Bool):Option Out :=
 match C.T t with
 |none=>none
 |some i=>match i.d with
  |.map kt et=>match C.T et with
   |none=>none
   |some j=>match x with
    |.nilmap=>some ⟨keyFit C kt k=true,if ok=true then .tup [ofCells j j.zero,.bool false] else ofCells j j.zero,S⟩
    |.map b=>match S[b]? with
     |some (.mp es _)=>some ⟨keysOk C kt k es,if ok=true then .tup [lookV k es (ofCells j j.zero),.bool (findK k es).isSome] else lookV k es (ofCells j j.zero),S⟩
     |x=>match boxX x with
      |some es=>some ⟨keysOk C kt k (tagE es)∧oneX k es=true,if ok=true then .tup [lookV k (tagE es) (ofCells j j.zero),.bool (findK k (tagE es)).isSome] else lookV k (tagE es) (ofCells j j.zero),S⟩
      |none=>none
    |_=>none
  |_=>none
def setK (k v:AVal) (es:Ents) (c:Nat):ABox:=match findK k es with
 |some p=>.mp (es.set p (k,v,(es.getD p entD).2.2)) c
 |none=>.mp (es++[(k,v,c)]) (c+1)
def aMapUpdate (C:Cx) (S:St) (t:TypeId) (x k v:AVal):Option Out :=
 match C.T t with
 |none=>none
 |some i=>match i.d with
  |.map kt _=>match x with
   |.map b=>match S[b]? with
    |some (.mp es c)=>some ⟨keysOk C kt k es,.raw undef,S.set b (setK k v es c)⟩
    |some (.mpx es c)=>some ⟨keysOk C kt k (tagE es)∧freshX k es=true,.raw undef,S.set b (.mpx (sins k v es) (c+1))⟩
    |_=>none
   |_=>none
  |_=>none
def delK (k:AVal) (es:Ents) (c:Nat):ABox:=match findK k es with
 |some p=>.mp (es.eraseIdx p) c
 |none=>.mp es c
def aDelete (C:Cx) (S:St) (t:TypeId) (x k:AVal):Option Out :=
 match C.T t with
 |none=>none
 |some i=>match i.d with
  |.map kt _=>match x with
   |.nilmap=>some ⟨keyFit C kt k=true,.tup [],S⟩
   |.map b=>match S[b]? with
    |some (.mp es c)=>some ⟨keysOk C kt k es,.tup [],S.set b (delK k es c)⟩
    |_=>none
   |_=>none
  |_=>none
def entK (k z:AVal) (es:Ents) (c:Nat):AVal × ABox:=match findK k es with
 |some p=>(.tup [(es.getD p entD).2.1,.int .i64 (es.getD p entD).2.2],.mp (es.set p (k,(es.getD p entD).2.1,(es.getD p entD).2.2)) c)
 |none=>(.tup [z,.int .i64 c],.mp (es++[(k,z,c)]) (c+1))
def aMapEntry (C:Cx) (S:St) (t:TypeId) (x k:AVal):Option Out :=
 match C.T t with
 |none=>none
 |some i=>match i.d with
  |.map kt et=>match C.T et with
   |none=>none
   |some j=>match x with
    |.map b=>match S[b]? with
     |some (.mp es c)=>some ⟨keysOk C kt k es,(entK k (ofCells j j.zero) es c).1,S.set b (entK k (ofCells j j.zero) es c).2⟩
     |_=>none
    |_=>none
  |_=>none
def aEntryStore (S:St) (x st v:AVal):Option Out :=
 match x,st with
 |.map b,.int _ n=>match S[b]? with
  |some (.mp es c)=>match es.findIdx? fun e=>(e.2.2:Int)==n with
   |some p=>some ⟨True,.raw undef,S.set b (.mp (es.set p ((es.getD p entD).1,v,(es.getD p entD).2.2)) c)⟩
   |none=>none
  |_=>none
 |_,_=>none
def aRange (C:Cx) (S:St) (t:TypeId) (x:AVal):Option Out :=
 match C.T t with
 |none=>none
 |some i=>match i.d with
  |.string=>match x with
   |.str s=>some ⟨True,.ptr S.length 0,S++[.siter s 0]⟩
   |_=>none
  |.map _ _=>match x with
   |.nilmap=>some ⟨True,.ptr S.length 0,S++[.iter none 0 [] 0]⟩
   |.map b=>match S[b]? with
    |some (.mp _ c)=>some ⟨True,.ptr S.length 0,S++[.iter (some b) c [] c]⟩
    |some (.mpx _ c)=>some ⟨True,.ptr S.length 0,S++[.iter (some b) c [] c]⟩
    |_=>none
   |_=>none
  |_=>none
def aNextS (S:St) (it:AVal):Option Out :=
 match it with
 |.ptr k 0=>match S[k]? with
  |some (.siter s pos)=>match s[pos]? with
   |some b=>if b.toNat<128 then some ⟨True,.tup [.bool true,.int .i64 pos,.int .i32 b.toNat],S.set k (.siter s (pos+1))⟩ else none
   |none=>some ⟨True,.tup [.bool false],S⟩
  |_=>none
 |_=>none
def aEntry (S:St) (it:AVal):Option Out :=
 match it with
 |.ptr k 0=>match S[k]? with
  |some (.iter (some mi) _ seen last)=>match S[mi]? with
   |some (.mp es c)=>match seen.getLast? with
    |some b=>match es.find? fun e=>e.2.2==b with
     |some e=>some ⟨c=last,.tup [e.1,e.2.1],S⟩
     |none=>none
    |none=>none
   |_=>none
  |_=>none
 |_=>none
def aMakeMap (S:St) (r:Option AVal):Option Out :=
 match r with
 |none=>some ⟨True,.map S.length,S++[.mp [] 0]⟩
 |_=>none
theorem R.tup2 {E:Env} {a b:AVal} {x y:Value} (h1:R E a x) (h2:R E b y):R E (.tup [a,b]) (.tuple #[x,y]) :=
 .tup _ _ rfl fun q hq=>match q,hq with
  |0,_=>h1
  |1,_=>h2
theorem mpOk_at {b:Nat} {es:Ents} {c:Nat} {x:Value} (hx:R E (.map b) x) (q:mpOk E b es c) :
  ∃ (r:Nat) (ms:Array MapEntry),x = .map (some r)∧E.mu[b]? = some (some r)∧E.w.heap[r]? = some (.map ms c)∧ms.size=es.length ∧
   (∀ j (h:j<es.length),R E es[j].1 (ms.getD j default).key∧R E es[j].2.1 (ms.getD j default).val∧(ms.getD j default).born=es[j].2.2):=by
 cases hx with
 |map _ r hm hb =>
  obtain ⟨r',ms,h1,h2,h3,h4⟩:=q
  obtain rfl:r'=r:=by rw [hm] at h1;injection h1 with h1;injection h1 with h1;exact h1.symm
  exact ⟨r',ms,rfl,hm,h2,h3,h4⟩
theorem mp_entry {G:Nat→Option AVal} (hE:Wf G E) {b:Nat} {es:Ents} {c:Nat} {x:Value} (hx:R E (.map b) x) (hS:E.S[b]? = some (.mp es c)) :
  ∃ (r:Nat) (ms:Array MapEntry),x = .map (some r)∧E.mu[b]? = some (some r)∧E.w.heap[r]? = some (.map ms c)∧ms.size=es.length ∧
   (∀ j (h:j<es.length),R E es[j].1 (ms.getD j default).key∧R E es[j].2.1 (ms.getD j default).val∧(ms.getD j default).born=es[j].2.2) :=
 mpOk_at hx (hE.entry b _ hS)
theorem boxX_ok {G:Nat→Option AVal} (hE:Wf G E) {b:Nat} {es:List (AVal × AVal)} (h:boxX E.S[b]? = some es):∃ es' c,MX es es' c∧mpOk E b es' c:=by
 unfold boxX at h
 split at h
 ·next es0 c hS =>
  injection h with h
  subst h
  obtain ⟨es',h1,h2⟩:=hE.entry b _ hS
  exact ⟨es',c,h1,h2⟩
 ·next es0 hS =>
  injection h with h
  subst h
  obtain ⟨c,es',h1,h2⟩:=hE.entry b _ hS
  exact ⟨es',c,h1,h2⟩
 ·cases h
theorem find_perm {α:Type} {p:α→Bool} {l l':List α} (h:l.Perm l') (h1:(l'.filter p).length≤1):l.find? p=l'.find? p:=by
 have hp:=h.filter p
 rw [← List.head?_filter,← List.head?_filter]
 match hl:l'.filter p,h1 with
 |[],_=>rw [hl] at hp;rw [hp.eq_nil]
 |[a],_=>rw [hl] at hp;rw [List.perm_singleton.1 hp]
theorem lookV_eq (k:AVal) (es:Ents) (z:AVal):lookV k es z=((es.find? fun e=>aeqs k.cells e.1.cells).map (·.2.1)).getD z:=by
 unfold lookV findK
 induction es with
 |nil=>rfl
 |cons e es ih =>
  rw [List.findIdx?_cons,List.find?_cons]
  cases h:aeqs k.cells e.1.cells with
  |true=>rfl
  |false =>
   simp only [Bool.false_eq_true,if_false]
   rw [← ih]
   cases List.findIdx? (fun e=>aeqs k.cells e.1.cells) es<;>rfl
theorem findK_isSome (k:AVal) (es:Ents):(findK k es).isSome=(es.find? fun e=>aeqs k.cells e.1.cells).isSome:=by
 unfold findK
 induction es with
 |nil=>rfl
 |cons e es ih =>
  rw [List.findIdx?_cons,List.find?_cons]
  cases h:aeqs k.cells e.1.cells with
  |true=>rfl
  |false =>
   simp only [Bool.false_eq_true,if_false]
   rw [← ih]
   cases List.findIdx? (fun e=>aeqs k.cells e.1.cells) es<;>rfl
theorem find_fst (k:AVal) (es:Ents):(es.find? fun e=>aeqs k.cells e.1.cells).map (fun e=>(e.1,e.2.1))=(es.map fun e=>(e.1,e.2.1)).find? fun e=>aeqs k.cells e.1.cells:=by
 induction es with
 |nil=>rfl
 |cons e es ih =>
  rw [List.map_cons,List.find?_cons,List.find?_cons]
  cases h:aeqs k.cells e.1.cells with
  |true=>rfl
  |false=>exact ih
theorem tagE_fst (es:List (AVal × AVal)):(tagE es).map (fun e=>(e.1,e.2.1))=es:=by
 induction es with
 |nil=>rfl
 |cons e es ih =>
  have ih':List.map (fun e=>(e.1,e.2.1)) (es.map fun e=>(e.1,e.2,0))=es:=ih
  simp only [tagE,List.map_cons,ih']
theorem find_MX {k:AVal} {es:List (AVal × AVal)} {es':Ents} {c:Nat} (hx:MX es es' c) (h1:oneX k es=true) :
  (es'.find? fun e=>aeqs k.cells e.1.cells).map (fun e=>(e.1,e.2.1))=((tagE es).find? fun e=>aeqs k.cells e.1.cells).map fun e=>(e.1,e.2.1):=by
 rw [find_fst,find_fst,tagE_fst]
 exact find_perm hx.perm (Nat.le_of_ble_eq_true h1)
theorem lookV_MX {k z:AVal} {es:List (AVal × AVal)} {es':Ents} {c:Nat} (hx:MX es es' c) (h1:oneX k es=true):lookV k es' z=lookV k (tagE es) z∧(findK k es').isSome=(findK k (tagE es)).isSome:=by
 have h:=find_MX hx h1
 rw [lookV_eq,lookV_eq,findK_isSome,findK_isSome]
 generalize (List.find? (fun e=>aeqs k.cells e.1.cells) es')=a at h
 generalize (List.find? (fun e=>aeqs k.cells e.1.cells) (tagE es))=b at h
 cases a<;>cases b<;>simp_all
theorem keysOk_MX {kt:TypeId} {k:AVal} {es:List (AVal × AVal)} {es':Ents} {c:Nat} (hx:MX es es' c) (h:keysOk C kt k (tagE es)):keysOk C kt k es':=by
 refine ⟨h.1,fun e he=>?_⟩
 have h1:(e.1,e.2.1)∈es:=hx.perm.mem_iff.1 (List.mem_map.2 ⟨e,he,rfl⟩)
 exact h.2 (e.1,e.2.1,0) (List.mem_map.2 ⟨_,h1,rfl⟩)
theorem sins_perm (k v:AVal):∀ es:List (AVal × AVal),(sins k v es).Perm ((k,v)::es)
 |[]=>.refl _
 |e::es=>by
  unfold sins
  cases Nat.blt (encN k) (encN e.1) with
  |true=>exact .refl _
  |false=>exact ((sins_perm k v es).cons e).trans (.swap _ _ _)
theorem fresh_none {kt:TypeId} {k:AVal} {es:List (AVal × AVal)} {es':Ents} {c:Nat} (hx:MX es es' c) (hk:keysOk C kt k es') (h:freshX k es=true):findK k es'=none:=by
 unfold findK
 rw [List.findIdx?_eq_none_iff]
 intro e he
 cases hb:aeqs k.cells e.1.cells with
 |false=>rfl
 |true =>
  obtain ⟨q,hq,_,hz,ha⟩:=keyFit_spec hk.1
  obtain ⟨q',hq',_,hz',ha'⟩:=keyFit_spec (hk.2 e he)
  obtain rfl:q'=q:=by rw [hq] at hq';exact (Option.some.inj hq').symm
  have heq:=(aeqs_iff hz hz').1 hb
  have h1:(e.1,e.2.1)∈es:=hx.perm.mem_iff.1 (List.mem_map.2 ⟨e,he,rfl⟩)
  have h2:=List.all_eq_true.1 h _ h1
  have h3:encN e.1=encN k:=by unfold encN;rw [heq]
  simp only [h3,Bool.not_eq_true'] at h2
  rw [Nat.beq_refl] at h2
  cases h2
theorem findK_lt {k:AVal} {es:Ents} {p:Nat} (h:findK k es=some p):p<es.length:=by
 unfold findK at h
 obtain ⟨h1,_⟩:=List.findIdx?_eq_some_iff_getElem.1 h
 exact h1
theorem zero_run {P:Program} {t:TypeId} {i:TI} (hi:i.ok P t) (w:World):∃ z,(zeroValue t).run P w = .ok z w∧∀ E:Env,R E (ofCells i i.zero) z:=by
 obtain ⟨inf,z,hinf,hz,_,_,_,hr⟩:=ofCells_zero hi
 exact ⟨z,by simp [zeroValue,typeInfo,hinf,hz],hr⟩
theorem lookup_at {G:Nat→Option AVal} (hC:C.Ok) (hE:Wf G E) {t kt et:TypeId} {i j:TI} (hi:C.T t=some i) (hd:i.d = .map kt et) (hj:C.T et=some j) {b:Nat} {es:Ents} {c:Nat} {k:AVal} {x y:Value}
  (hx:R E (.map b) x) (hS:mpOk E b es c) (hk:keysOk C kt k es) (hy:R E k y) (ok:Bool) :
  ROk G E E.S (if ok=true then .tup [lookV k es (ofCells j j.zero),.bool (findK k es).isSome] else lookV k es (ofCells j j.zero)) ((Instr.lookup t x y ok).run C.P E.w):=by
 obtain ⟨r,ms,rfl,hm,hh,hl,hr⟩:=mpOk_at hx hS
 have hu:=(hC.T.ok t i hi).1
 rw [hd] at hu
 obtain ⟨z,hz,hzr⟩:=zero_run (hC.T.ok et j hj) E.w
 have hf:=find_ok (E:=E) hC hk.1 hk.2 hy hl (fun q h=>(hr q h).1)
 have hc:=check_ok (E:=E) hC hk.1 hy ms.isEmpty
 have key:∃ v,R E (lookV k es (ofCells j j.zero)) v∧(Instr.lookup t (.map (some r)) y ok).run C.P E.w = .ok (if ok=true then .tuple #[v,.bool (findK k es).isSome] else v) E.w:=by
  cases hfk:findK k es with
  |none =>
   rw [hfk] at hf
   refine ⟨z,by simp only [lookV,hfk];exact hzr E,?_⟩
   simp only [Option.bind_none] at hf
   simp only [Instr.lookup,Sem.run_bind,run_underlying hu,getObj,Sem.run,hh,Result.andThen_ok,hc,hf,hz,Sem.run_pure]
   cases ok<;>rfl
  |some p =>
   have hp:=findK_lt hfk
   have hp':p<ms.size:=by omega
   have hrp:=hr p hp
   rw [hfk] at hf
   refine ⟨ms[p].val,?_,?_⟩
   ·simp only [lookV,hfk]
    have e:ms.getD p default=ms[p]:=by rw [Array.getD_eq_getD_getElem?,Array.getElem?_eq_getElem hp'];rfl
    rw [e] at hrp
    have e2:es.getD p entD=es[p]:=by rw [List.getD_eq_getElem?_getD,List.getElem?_eq_getElem hp];rfl
    rw [e2]
    exact hrp.2.1
   ·simp only [Option.bind_some,Array.getElem?_eq_getElem hp',Option.map_some] at hf
    simp only [Instr.lookup,Sem.run_bind,run_underlying hu,getObj,Sem.run,hh,Result.andThen_ok,hc,hf,Sem.run_pure]
    cases ok<;>rfl
 obtain ⟨v,hv,hrun⟩:=key
 refine .pure hE hrun ?_
 cases ok with
 |false=>exact hv
 |true=>exact .tup2 hv (.bool _)
theorem lookup_ok {G:Nat→Option AVal} (hC:C.Ok) (hE:Wf G E) {t kt et:TypeId} {i j:TI} (hi:C.T t=some i) (hd:i.d = .map kt et) (hj:C.T et=some j) {b:Nat} {es:Ents} {c:Nat} {k:AVal} {x y:Value}
  (hx:R E (.map b) x) (hS:E.S[b]? = some (.mp es c)) (hk:keysOk C kt k es) (hy:R E k y) (ok:Bool) :
  ROk G E E.S (if ok=true then .tup [lookV k es (ofCells j j.zero),.bool (findK k es).isSome] else lookV k es (ofCells j j.zero)) ((Instr.lookup t x y ok).run C.P E.w) :=
 lookup_at hC hE hi hd hj hx (hE.entry b _ hS) hk hy ok
theorem lookupX_ok {G:Nat→Option AVal} (hC:C.Ok) (hE:Wf G E) {t kt et:TypeId} {i j:TI} (hi:C.T t=some i) (hd:i.d = .map kt et) (hj:C.T et=some j) {b:Nat} {es:List (AVal × AVal)} {k:AVal} {x y:Value}
  (hx:R E (.map b) x) (hS:boxX E.S[b]? = some es) (hk:keysOk C kt k (tagE es)∧oneX k es=true) (hy:R E k y) (ok:Bool) :
  ROk G E E.S (if ok=true then .tup [lookV k (tagE es) (ofCells j j.zero),.bool (findK k (tagE es)).isSome] else lookV k (tagE es) (ofCells j j.zero)) ((Instr.lookup t x y ok).run C.P E.w):=by
 obtain ⟨es',c,h1,h2⟩:=boxX_ok hE hS
 have:=lookup_at hC hE hi hd hj hx h2 (keysOk_MX h1 hk.1) hy ok
 obtain ⟨e1,e2⟩:=lookV_MX (z:=ofCells j j.zero) h1 hk.2
 rw [e1,e2] at this
 exact this
theorem lookup_nil {G:Nat→Option AVal} (hC:C.Ok) (hE:Wf G E) {t kt et:TypeId} {i j:TI} (hi:C.T t=some i) (hd:i.d = .map kt et) (hj:C.T et=some j) {k:AVal} {x y:Value}
  (hx:R E .nilmap x) (hk:keyFit C kt k=true) (hy:R E k y) (ok:Bool) :
  ROk G E E.S (if ok=true then .tup [ofCells j j.zero,.bool false] else ofCells j j.zero) ((Instr.lookup t x y ok).run C.P E.w):=by
 cases hx
 have hu:=(hC.T.ok t i hi).1
 rw [hd] at hu
 obtain ⟨z,hz,hzr⟩:=zero_run (hC.T.ok et j hj) E.w
 obtain ⟨q,hq,_⟩:=keyFit_spec hk
 have hc:=check_ok (E:=E) hC hk hy (#[]:Array MapEntry).isEmpty
 have hf:(Instr.findKey kt y []).run C.P E.w = .ok none E.w:=by
  simp only [Instr.findKey,Sem.run_bind,run_underlying (hC.T.ok kt q hq).1,Result.andThen_ok,Instr.findNow,Sem.run_pure]
 have hrun:(Instr.lookup t (.map none) y ok).run C.P E.w = .ok (if ok=true then .tuple #[z,.bool false] else z) E.w:=by
  simp only [Instr.lookup,Sem.run_bind,run_underlying hu,Sem.run_pure,Result.andThen_ok,hc,hf,hz]
  skip
 refine .pure hE hrun ?_
 cases ok with
 |false=>exact hzr E
 |true=>exact .tup2 (hzr E) (.bool _)
theorem mp_set {G:Nat→Option AVal} (hE:Wf G E) {b r c c':Nat} {es es':Ents} {ms ms':Array MapEntry} (hm:E.mu[b]? = some (some r)) (hh:E.w.heap[r]? = some (.map ms c)) (hS:E.S[b]? = some (.mp es c))
  (hl:ms'.size=es'.length) (hr:∀ j (h:j<es'.length),R E es'[j].1 (ms'.getD j default).key∧R E es'[j].2.1 (ms'.getD j default).val∧(ms'.getD j default).born=es'[j].2.2) :
  ∃ E',E'.w=E.w.putObj r (.map ms' c')∧Ext E E'∧Wf G E'∧E'.S=E.S.set b (.mp es' c'):=by
 obtain ⟨k1,k2⟩:=env_set hE hm (grownBy_putObj' E.w r (.map ms' c')) _ (.mp es' c') hS rfl rfl (fun hext =>
  ⟨r,ms',hm,World.putObj_heap_same (heap_lt hh),hl,fun j h=>⟨(hr j h).1.ext hE hext,(hr j h).2.1.ext hE hext,(hr j h).2.2⟩⟩)
 exact ⟨_,rfl,k1,k2,rfl⟩
theorem run_setObj_put {P:Program} {w:World} {r:Nat} {ms:Array MapEntry} {c:Nat} {o':Obj} (h:w.heap[r]? = some (.map ms c)):(setObj r o').run P w = .ok () (w.putObj r o'):=by
 simp [setObj,Sem.run,h,World.putObj]
theorem getD_of {α:Type} (a:Array α) (d:α) (p:Nat) (h:p<a.size):a.getD p d=a[p]:=by rw [Array.getD_eq_getD_getElem?,Array.getElem?_eq_getElem h];rfl
theorem update_ok {G:Nat→Option AVal} (hC:C.Ok) (hE:Wf G E) {t kt et:TypeId} {i:TI} (hi:C.T t=some i) (hd:i.d = .map kt et) {b:Nat} {es:Ents} {c:Nat} {k v:AVal} {x y u:Value}
  (hx:R E (.map b) x) (hS:E.S[b]? = some (.mp es c)) (hk:keysOk C kt k es) (hy:R E k y) (hv:R E v u) :
  ∃ E',(Instr.mapUpdate t x y u).run C.P E.w = .ok () E'.w∧Ext E E'∧Wf G E'∧E'.S=E.S.set b (setK k v es c):=by
 obtain ⟨r,ms,rfl,hm,hh,hl,hr⟩:=mp_entry hE hx hS
 have hu:=(hC.T.ok t i hi).1
 rw [hd] at hu
 have hf:=find_ok (E:=E) hC hk.1 hk.2 hy hl (fun q h=>(hr q h).1)
 have hc:=check_ok (E:=E) hC hk.1 hy false
 cases hfk:findK k es with
 |none =>
  rw [hfk] at hf
  simp only [Option.bind_none] at hf
  obtain ⟨E',e1,e2,e3,e4⟩:=mp_set (c':=c+1) (es':=es++[(k,v,c)]) (ms':=ms.push { key:=y,val:=u,born:=c }) hE hm hh hS (by simp [hl]) (fun j h=>by
   simp only [List.length_append,List.length_cons,List.length_nil] at h
   rw [getD_of _ _ _ (by simp;omega)]
   by_cases hj:j<es.length
   ·have:=hr j hj
    rw [getD_of _ _ _ (by omega)] at this
    rw [Array.getElem_push_lt (by omega),List.getElem_append_left hj]
    exact this
   ·have e:j=ms.size:=by omega
    subst e
    rw [Array.getElem_push_eq,List.getElem_append_right (by omega)]
    simp only [hl,Nat.sub_self,List.getElem_cons_zero]
    exact ⟨hy,hv,by first|rfl|trivial⟩)
  refine ⟨E',?_,e2,e3,by rw [e4];simp only [setK,hfk]⟩
  simp only [Instr.mapUpdate,Sem.run_bind,run_underlying hu,getObj,Sem.run,hh,Result.andThen_ok,hc,hf]
  rw [e1]
  exact run_setObj_put hh
 |some p =>
  have hp:=findK_lt hfk
  have hp':p<ms.size:=by omega
  rw [hfk] at hf
  simp only [Option.bind_some,Array.getElem?_eq_getElem hp',Option.map_some] at hf
  have hrp:=hr p hp
  rw [getD_of _ _ _ hp'] at hrp
  have e2:es.getD p entD=es[p]:=by rw [List.getD_eq_getElem?_getD,List.getElem?_eq_getElem hp];rfl
  obtain ⟨q,hq,_,hz,ha⟩:=keyFit_spec hk.1
  have hsame:Instr.sameBits 10000 ms[p].key y=true:=by
   obtain ⟨q',hq',_,hz',ha'⟩:=keyFit_spec (hk.2 _ (List.getElem_mem hp))
   obtain rfl:q'=q:=by rw [hq] at hq';exact (Option.some.inj hq').symm
   have hb:aeqs k.cells es[p].1.cells=true:=by
    unfold findK at hfk
    exact (List.findIdx?_eq_some_iff_getElem.1 hfk).2.1
   have heq:=(aeqs_iff hz hz').1 hb
   have:k=es[p].1:=by rw [← ofCells_cells ha,← ofCells_cells ha',heq]
   rw [← this] at hrp
   exact same_key hz hrp.1 hy
  obtain ⟨E',e1,e3,e4,e5⟩:=mp_set (c':=c) (es':=es.set p (k,v,es[p].2.2)) (ms':=ms.modify p fun e=>{ e with key:=y,val:=u }) hE hm hh hS (by simp [hl]) (fun j h=>by
   have hj:j<es.length:=by simpa using h
   rw [getD_of _ _ _ (by simp;omega)]
   rw [Array.getElem_modify,List.getElem_set]
   by_cases e:p=j
   ·subst e
    simp only [if_true]
    exact ⟨hy,hv,hrp.2.2⟩
   ·simp only [e,if_false]
    have:=hr j hj
    rw [getD_of _ _ _ (by omega)] at this
    exact this)
  refine ⟨E',?_,e3,e4,by rw [e5];simp only [setK,hfk,e2]⟩
  simp only [Instr.mapUpdate,Sem.run_bind,run_underlying hu,getObj,Sem.run,hh,Result.andThen_ok,hc,hf,Instr.keyThatStays,Array.getElem?_eq_getElem hp',Option.map_some,Option.getD_some,hsame,if_true,Sem.run_pure]
  rw [e1]
  exact run_setObj_put hh
theorem updateX_ok {G:Nat→Option AVal} (hC:C.Ok) (hE:Wf G E) {t kt et:TypeId} {i:TI} (hi:C.T t=some i) (hd:i.d = .map kt et) {b:Nat} {es:List (AVal × AVal)} {c:Nat} {k v:AVal} {x y u:Value}
  (hx:R E (.map b) x) (hS:E.S[b]? = some (.mpx es c)) (hk:keysOk C kt k (tagE es)∧freshX k es=true) (hy:R E k y) (hv:R E v u) :
  ∃ E',(Instr.mapUpdate t x y u).run C.P E.w = .ok () E'.w∧Ext E E'∧Wf G E'∧E'.S=E.S.set b (.mpx (sins k v es) (c+1)):=by
 obtain ⟨es',hmx,hq⟩:=hE.entry b _ hS
 obtain ⟨r,ms,rfl,hm,hh,hl,hr⟩:=mpOk_at hx hq
 have hk':=keysOk_MX hmx hk.1
 have hu:=(hC.T.ok t i hi).1
 rw [hd] at hu
 have hf:=find_ok (E:=E) hC hk'.1 hk'.2 hy hl (fun q h=>(hr q h).1)
 have hc:=check_ok (E:=E) hC hk'.1 hy false
 have hfk:=fresh_none hmx hk' hk.2
 rw [hfk] at hf
 simp only [Option.bind_none] at hf
 obtain ⟨k1,k2⟩:=env_set hE hm (grownBy_putObj' E.w r (.map (ms.push { key:=y,val:=u,born:=c }) (c+1))) _ (.mpx (sins k v es) (c+1)) hS rfl rfl (fun hext=>by
  refine ⟨es'++[(k,v,c)],⟨?_,?_,fun e he=>?_⟩,r,ms.push { key:=y,val:=u,born:=c },hm,World.putObj_heap_same (heap_lt hh),by simp [hl],fun j h=>?_⟩
  ·rw [List.map_append]
   exact (List.perm_append_comm.trans ((hmx.perm.cons (k,v)))).trans (sins_perm k v es).symm
  ·rw [List.map_append,List.nodup_append]
   refine ⟨hmx.nodup,by simp,fun a ha b hb=>?_⟩
   simp only [List.map_cons,List.map_nil,List.mem_singleton] at hb
   obtain ⟨e,he,rfl⟩:=List.mem_map.1 ha
   have:=hmx.lt e he
   omega
  ·rcases List.mem_append.1 he with he|he
   ·have:=hmx.lt e he
    omega
   ·rw [List.mem_singleton] at he
    subst he
    exact Nat.lt_succ_self c
  ·simp only [List.length_append,List.length_cons,List.length_nil] at h
   rw [getD_of _ _ _ (by simp;omega)]
   by_cases hj:j<es'.length
   ·have:=hr j hj
    rw [getD_of _ _ _ (by omega)] at this
    rw [Array.getElem_push_lt (by omega),List.getElem_append_left hj]
    exact ⟨this.1.ext hE hext,this.2.1.ext hE hext,this.2.2⟩
   ·have e:j=ms.size:=by omega
    subst e
    rw [Array.getElem_push_eq,List.getElem_append_right (by omega)]
    simp only [hl,Nat.sub_self,List.getElem_cons_zero]
    exact ⟨hy.ext hE hext,hv.ext hE hext,by first|rfl|trivial⟩)
 refine ⟨_,?_,k1,k2,rfl⟩
 simp only [Instr.mapUpdate,Sem.run_bind,run_underlying hu,getObj,Sem.run,hh,Result.andThen_ok,hc,hf]
 exact run_setObj_put hh
theorem delete_ok {G:Nat→Option AVal} (hC:C.Ok) (hE:Wf G E) {t tk ty kt et:TypeId} {i:TI} (hi:C.T t=some i) (hd:i.d = .map kt et) {b:Nat} {es:Ents} {c:Nat} {k:AVal} {x y:Value}
  (hx:R E (.map b) x) (hS:E.S[b]? = some (.mp es c)) (hk:keysOk C kt k es) (hy:R E k y) :
  ROk G E (E.S.set b (delK k es c)) (.tup []) ((Builtin.delete_ #[t,tk] ty #[x,y]).run C.P E.w):=by
 obtain ⟨r,ms,rfl,hm,hh,hl,hr⟩:=mp_entry hE hx hS
 have hu:=(hC.T.ok t i hi).1
 rw [hd] at hu
 have hf:=find_ok (E:=E) hC hk.1 hk.2 hy hl (fun q h=>(hr q h).1)
 have hc:=check_ok (E:=E) hC hk.1 hy ms.isEmpty
 cases hfk:findK k es with
 |none =>
  rw [hfk] at hf
  simp only [Option.bind_none] at hf
  obtain ⟨E',e1,e2,e3,e4⟩:=mp_set (c':=c) (es':=es) (ms':=ms) hE hm hh hS hl hr
  refine ⟨E',.tuple #[],?_,e2,e3,by rw [e4];simp only [delK,hfk],.tup _ _ rfl (fun q hq=>by simp at hq)⟩
  simp [Builtin.delete_,Sem.run_bind,run_underlying hu,getObj,Sem.run,hh,Result.andThen_ok,hc,hf,e1,run_setObj_put hh]
 |some p =>
  have hp:=findK_lt hfk
  have hp':p<ms.size:=by omega
  rw [hfk] at hf
  simp only [Option.bind_some,Array.getElem?_eq_getElem hp',Option.map_some] at hf
  obtain ⟨E',e1,e3,e4,e5⟩:=mp_set (c':=c) (es':=es.eraseIdx p) (ms':=ms.eraseIdxIfInBounds p) hE hm hh hS (by
    rw [Array.eraseIdxIfInBounds,dif_pos hp',Array.size_eraseIdx,List.length_eraseIdx_of_lt hp,hl]) (fun j h=>by
   rw [List.length_eraseIdx_of_lt hp] at h
   rw [Array.eraseIdxIfInBounds,dif_pos hp',getD_of _ _ _ (by rw [Array.size_eraseIdx];omega)]
   rw [Array.getElem_eraseIdx,List.getElem_eraseIdx]
   split
   ·have:=hr j (by omega)
    rw [getD_of _ _ _ (by omega)] at this
    exact this
   ·have:=hr (j+1) (by omega)
    rw [getD_of _ _ _ (by omega)] at this
    exact this)
  refine ⟨E',.tuple #[],?_,e3,e4,by rw [e5];simp only [delK,hfk],.tup _ _ rfl (fun q hq=>by simp at hq)⟩
  simp [Builtin.delete_,Sem.run_bind,run_underlying hu,getObj,Sem.run,hh,Result.andThen_ok,hc,hf,e1,run_setObj_put hh]
theorem delete_nil {G:Nat→Option AVal} (hC:C.Ok) (hE:Wf G E) {t tk ty kt et:TypeId} {i:TI} (hi:C.T t=some i) (hd:i.d = .map kt et) {k:AVal} {x y:Value}
  (hx:R E .nilmap x) (hk:keyFit C kt k=true) (hy:R E k y):ROk G E E.S (.tup []) ((Builtin.delete_ #[t,tk] ty #[x,y]).run C.P E.w):=by
 cases hx
 have hu:=(hC.T.ok t i hi).1
 rw [hd] at hu
 have hc:=check_ok (E:=E) hC hk hy true
 exact .pure hE (x:=.tuple #[]) (by simp [Builtin.delete_,Sem.run_bind,run_underlying hu,Result.andThen_ok,hc]) (.tup _ _ rfl (fun q hq=>by simp at hq))
theorem len_map {G:Nat→Option AVal} (hC:C.Ok) (hE:Wf G E) {t ty kt et:TypeId} {i:TI} (hi:C.T t=some i) (hd:i.d = .map kt et) {b:Nat} {es:Ents} {c:Nat} {x:Value}
  (hx:R E (.map b) x) (hS:E.S[b]? = some (.mp es c)):ROk G E E.S (.int .i64 es.length) ((Builtin.len_ #[t] ty #[x]).run C.P E.w):=by
 obtain ⟨r,ms,rfl,hm,hh,hl,hr⟩:=mp_entry hE hx hS
 have hu:=(hC.T.ok t i hi).1
 rw [hd] at hu
 exact .pure hE (x:=.int .i64 ms.size) (by simp [Builtin.len_,Sem.run_bind,run_underlying hu,getObj,Sem.run,hh,Result.andThen_ok,goInt]) (by rw [hl];exact .int _ _)
theorem len_nilmap {G:Nat→Option AVal} (hC:C.Ok) (hE:Wf G E) {t ty kt et:TypeId} {i:TI} (hi:C.T t=some i) (hd:i.d = .map kt et) {x:Value}
  (hx:R E .nilmap x):ROk G E E.S (.int .i64 0) ((Builtin.len_ #[t] ty #[x]).run C.P E.w):=by
 cases hx
 have hu:=(hC.T.ok t i hi).1
 rw [hd] at hu
 exact .pure hE (x:=.int .i64 0) (by simp [Builtin.len_,Sem.run_bind,run_underlying hu,Sem.run,Result.andThen_ok,goInt]) (.int _ _)
theorem mapEntry_ok {G:Nat→Option AVal} (hC:C.Ok) (hE:Wf G E) {t kt et:TypeId} {i j:TI} (hi:C.T t=some i) (hd:i.d = .map kt et) (hj:C.T et=some j) {b:Nat} {es:Ents} {c:Nat} {k:AVal} {x y:Value}
  (hx:R E (.map b) x) (hS:E.S[b]? = some (.mp es c)) (hk:keysOk C kt k es) (hy:R E k y) :
  ROk G E (E.S.set b (entK k (ofCells j j.zero) es c).2) (entK k (ofCells j j.zero) es c).1 ((Instr.mapEntry t x y).run C.P E.w):=by
 obtain ⟨r,ms,rfl,hm,hh,hl,hr⟩:=mp_entry hE hx hS
 have hu:=(hC.T.ok t i hi).1
 rw [hd] at hu
 obtain ⟨z,hz,hzr⟩:=zero_run (hC.T.ok et j hj) E.w
 have hf:=find_ok (E:=E) hC hk.1 hk.2 hy hl (fun q h=>(hr q h).1)
 have hc:=check_ok (E:=E) hC hk.1 hy false
 cases hfk:findK k es with
 |none =>
  rw [hfk] at hf
  simp only [Option.bind_none] at hf
  obtain ⟨E',e1,e2,e3,e4⟩:=mp_set (c':=c+1) (es':=es++[(k,ofCells j j.zero,c)]) (ms':=ms.push { key:=y,val:=z,born:=c }) hE hm hh hS (by simp [hl]) (fun q h=>by
   simp only [List.length_append,List.length_cons,List.length_nil] at h
   rw [getD_of _ _ _ (by simp;omega)]
   by_cases hq:q<es.length
   ·have:=hr q hq
    rw [getD_of _ _ _ (by omega)] at this
    rw [Array.getElem_push_lt (by omega),List.getElem_append_left hq]
    exact this
   ·have e:q=ms.size:=by omega
    subst e
    rw [Array.getElem_push_eq,List.getElem_append_right (by omega)]
    simp only [hl,Nat.sub_self,List.getElem_cons_zero]
    exact ⟨hy,hzr E,by first|rfl|trivial⟩)
  refine ⟨E',.tuple #[z,goInt c],?_,e2,e3,by rw [e4];simp only [entK,hfk],?_⟩
  ·simp only [Instr.mapEntry,Sem.run_bind,run_underlying hu,getObj,Sem.run,hh,Result.andThen_ok,hc,hf,hz,run_setObj_put hh,Sem.run_pure]
   rw [e1]
  ·simp only [entK,hfk]
   exact .tup2 (hzr E') (.int _ _)
 |some p =>
  have hp:=findK_lt hfk
  have hp':p<ms.size:=by omega
  rw [hfk] at hf
  simp only [Option.bind_some,Array.getElem?_eq_getElem hp',Option.map_some] at hf
  have hrp:=hr p hp
  rw [getD_of _ _ _ hp'] at hrp
  have e2:es.getD p entD=es[p]:=by rw [List.getD_eq_getElem?_getD,List.getElem?_eq_getElem hp];rfl
  obtain ⟨q,hq,_,hz',ha⟩:=keyFit_spec hk.1
  have hsame:Instr.sameBits 10000 ms[p].key y=true:=by
   obtain ⟨q',hq',_,hz'',ha'⟩:=keyFit_spec (hk.2 _ (List.getElem_mem hp))
   obtain rfl:q'=q:=by rw [hq] at hq';exact (Option.some.inj hq').symm
   have hb:aeqs k.cells es[p].1.cells=true:=by
    unfold findK at hfk
    exact (List.findIdx?_eq_some_iff_getElem.1 hfk).2.1
   have heq:=(aeqs_iff hz' hz'').1 hb
   have:k=es[p].1:=by rw [← ofCells_cells ha,← ofCells_cells ha',heq]
   rw [← this] at hrp
   exact same_key hz' hrp.1 hy
  obtain ⟨E',e1,e3,e4,e5⟩:=mp_set (c':=c) (es':=es.set p (k,es[p].2.1,es[p].2.2)) (ms':=ms.modify p fun e=>{ e with key:=y }) hE hm hh hS (by simp [hl]) (fun q h=>by
   have hq:q<es.length:=by simpa using h
   rw [getD_of _ _ _ (by simp;omega)]
   rw [Array.getElem_modify,List.getElem_set]
   by_cases e:p=q
   ·subst e
    simp only [if_true]
    exact ⟨hy,hrp.2.1,hrp.2.2⟩
   ·simp only [e,if_false]
    have:=hr q hq
    rw [getD_of _ _ _ (by omega)] at this
    exact this)
  refine ⟨E',.tuple #[ms[p].val,goInt ms[p].born],?_,e3,e4,by rw [e5];simp only [entK,hfk,e2],?_⟩
  ·simp only [Instr.mapEntry,Sem.run_bind,run_underlying hu,getObj,Sem.run,hh,Result.andThen_ok,hc,hf,Instr.keyThatStays,Array.getElem?_eq_getElem hp',Option.map_some,Option.getD_some,hsame,if_true,Sem.run_pure,run_setObj_put hh]
   rw [e1]
  ·simp only [entK,hfk,e2]
   refine .tup2 (hrp.2.1.ext hE e3) ?_
   rw [hrp.2.2]
   exact .int _ _
theorem entryStore_ok {G:Nat→Option AVal} (hE:Wf G E) {P:Program} {t:TypeId} {b p:Nat} {es:Ents} {c:Nat} {v:AVal} {kk:IntKind} {n:Int} {x y u:Value}
  (hx:R E (.map b) x) (hS:E.S[b]? = some (.mp es c)) (hy:R E (.int kk n) y) (hv:R E v u) (hf:es.findIdx? (fun e=>(e.2.2:Int)==n)=some p) :
  ∃ E',(Instr.entryStore t x y u).run P E.w = .ok () E'.w∧Ext E E'∧Wf G E'∧E'.S=E.S.set b (.mp (es.set p ((es.getD p entD).1,v,(es.getD p entD).2.2)) c):=by
 obtain ⟨r,ms,rfl,hm,hh,hl,hr⟩:=mp_entry hE hx hS
 obtain ⟨hp,hp1,hp2⟩:=List.findIdx?_eq_some_iff_getElem.1 hf
 have hp':p<ms.size:=by omega
 have hrp:=hr p hp
 rw [getD_of _ _ _ hp'] at hrp
 have e2:es.getD p entD=es[p]:=by rw [List.getD_eq_getElem?_getD,List.getElem?_eq_getElem hp];rfl
 have hbr:∀ q (h:q<es.length),(ms[q]'(by omega)).born=es[q].2.2:=fun q h=>by
  have:=(hr q h).2.2
  rwa [getD_of _ _ _ (by omega)] at this
 have hidx:ms.findIdx? (fun e=>(e.born:Int)==n)=some p:=by
  rw [show ms.findIdx? (fun e=>(e.born:Int)==n)=ms.toList.findIdx? (fun e=>(e.born:Int)==n) from by rw [← List.findIdx?_toArray],List.findIdx?_eq_some_iff_getElem]
  refine ⟨by simpa using hp',by simp only [Array.getElem_toList];rw [hbr p hp];exact hp1,fun q hq=>?_⟩
  simp only [Array.getElem_toList]
  rw [hbr q (by omega)]
  exact hp2 q hq
 obtain ⟨E',e1,e3,e4,e5⟩:=mp_set (c':=c) (es':=es.set p (es[p].1,v,es[p].2.2)) (ms':=ms.modify p fun e=>{ e with val:=u }) hE hm hh hS (by simp [hl]) (fun q h=>by
  have hq:q<es.length:=by simpa using h
  rw [getD_of _ _ _ (by simp;omega)]
  rw [Array.getElem_modify,List.getElem_set]
  by_cases e:p=q
  ·subst e
   simp only [if_true]
   exact ⟨hrp.1,hv,hrp.2.2⟩
  ·simp only [e,if_false]
   have:=hr q hq
   rw [getD_of _ _ _ (by omega)] at this
   exact this)
 refine ⟨E',?_,e3,e4,by rw [e5,e2]⟩
 rw [hy.int_inv]
 simp only [Instr.entryStore,asInt,asIntOf,Sem.run_bind,getObj,Sem.run,hh,Result.andThen_ok,Sem.run_pure,hidx]
 rw [e1]
 exact run_setObj_put hh
theorem new_obj {G:Nat→Option AVal} (hE:Wf G E) (o:Obj) (x:ABox) (hx:Ext E { E with w:=E.w.alloc o,mu:=E.mu++[some E.w.heap.size],S:=E.S++[x] }→entryOk { E with w:=E.w.alloc o,mu:=E.mu++[some E.w.heap.size],S:=E.S++[x] } E.S.length x) :
  ∃ E',E'.w=E.w.alloc o∧Ext E E'∧Wf G E'∧E'.S=E.S++[x]∧E'.mu[E.S.length]? = some (some E.w.heap.size)∧E'.S[E.S.length]? = some x:=by
 obtain ⟨k1,k2⟩:=env_push hE (w':=E.w.alloc o) (World.grownBy_alloc E.w _ none) E.w.heap.size (Nat.le_refl _) (by simp) x hx
 exact ⟨_,rfl,k1,k2,rfl,by show (E.mu++[some E.w.heap.size])[E.S.length]? = _;rw [← hE.len];simp,by show (E.S++[x])[E.S.length]? = _;simp⟩
theorem alloc_last (w:World) (o:Obj):(w.alloc o).heap[w.heap.size]? = some o:=by
 show (w.heap.push o)[_]? = _
 rw [Array.getElem?_push_size]
theorem makeMap_ok {G:Nat→Option AVal} (hE:Wf G E) {P:Program} {t:TypeId}:ROk G E (E.S++[.mp [] 0]) (.map E.S.length) ((Instr.makeMap t none).run P E.w):=by
 obtain ⟨E',e1,e2,e3,e4,e5,e6⟩:=new_obj hE (.map #[] 0) (.mp [] 0) (fun _=>⟨E.w.heap.size,#[],by show (E.mu++[some E.w.heap.size])[E.S.length]? = _;rw [← hE.len];simp,alloc_last _ _,rfl,fun j h=>by simp at h⟩)
 refine ⟨E',.map (some E.w.heap.size),?_,e2,e3,e4,.map _ _ e5 ⟨_,e6,rfl⟩⟩
 simp only [Instr.makeMap,Sem.run_bind,Sem.run_pure,Result.andThen_ok,run_newObj_alloc]
 rw [e1]
theorem range_ok {G:Nat→Option AVal} (hC:C.Ok) (hE:Wf G E) {t kt et:TypeId} {i:TI} (hi:C.T t=some i) (hd:i.d = .map kt et) {b:Nat} {es:Ents} {c:Nat} {x:Value}
  (hx:R E (.map b) x) (hS:E.S[b]? = some (.mp es c)):ROk G E (E.S++[.iter (some b) c [] c]) (.ptr E.S.length 0) ((Instr.range t x).run C.P E.w):=by
 obtain ⟨r,ms,rfl,hm,hh,hl,hr⟩:=mp_entry hE hx hS
 have hu:=(hC.T.ok t i hi).1
 rw [hd] at hu
 have hb:=hE.mu_lt hm
 obtain ⟨E',e1,e2,e3,e4,e5,e6⟩:=new_obj hE (.mapIter (some r) c #[] c) (.iter (some b) c [] c) (fun _=>⟨E.w.heap.size,by show (E.mu++[some E.w.heap.size])[E.S.length]? = _;rw [← hE.len];simp,r,
  by show (E.mu++[some E.w.heap.size])[b]? = _;rw [List.getElem?_append_left (by rw [hE.len];exact hb)];exact hm,⟨.mp es c,by show (E.S++_)[b]? = _;rw [List.getElem?_append_left hb];exact hS,rfl⟩,alloc_last _ _⟩)
 refine ⟨E',.pointer (some ⟨E.w.heap.size,0,none⟩),?_,e2,e3,e4,.ptr _ _ _ e5 ⟨_,e6,rfl⟩⟩
 simp only [Instr.range,Sem.run_bind,run_underlying hu,getObj,Sem.run,hh,Sem.run_pure,Result.andThen_ok,run_newObj_alloc]
 rw [e1]
theorem rangeX_ok {G:Nat→Option AVal} (hC:C.Ok) (hE:Wf G E) {t kt et:TypeId} {i:TI} (hi:C.T t=some i) (hd:i.d = .map kt et) {b:Nat} {es:List (AVal × AVal)} {c:Nat} {x:Value}
  (hx:R E (.map b) x) (hS:E.S[b]? = some (.mpx es c)):ROk G E (E.S++[.iter (some b) c [] c]) (.ptr E.S.length 0) ((Instr.range t x).run C.P E.w):=by
 obtain ⟨es',hmx,hq⟩:=hE.entry b _ hS
 obtain ⟨r,ms,rfl,hm,hh,hl,hr⟩:=mpOk_at hx hq
 have hu:=(hC.T.ok t i hi).1
 rw [hd] at hu
 have hb:=hE.mu_lt hm
 obtain ⟨E',e1,e2,e3,e4,e5,e6⟩:=new_obj hE (.mapIter (some r) c #[] c) (.iter (some b) c [] c) (fun _=>⟨E.w.heap.size,by show (E.mu++[some E.w.heap.size])[E.S.length]? = _;rw [← hE.len];simp,r,
  by show (E.mu++[some E.w.heap.size])[b]? = _;rw [List.getElem?_append_left (by rw [hE.len];exact hb)];exact hm,⟨.mpx es c,by show (E.S++_)[b]? = _;rw [List.getElem?_append_left hb];exact hS,rfl⟩,alloc_last _ _⟩)
 refine ⟨E',.pointer (some ⟨E.w.heap.size,0,none⟩),?_,e2,e3,e4,.ptr _ _ _ e5 ⟨_,e6,rfl⟩⟩
 simp only [Instr.range,Sem.run_bind,run_underlying hu,getObj,Sem.run,hh,Sem.run_pure,Result.andThen_ok,run_newObj_alloc]
 rw [e1]
theorem range_nil {G:Nat→Option AVal} (hC:C.Ok) (hE:Wf G E) {t kt et:TypeId} {i:TI} (hi:C.T t=some i) (hd:i.d = .map kt et) {x:Value}
  (hx:R E .nilmap x):ROk G E (E.S++[.iter none 0 [] 0]) (.ptr E.S.length 0) ((Instr.range t x).run C.P E.w):=by
 cases hx
 have hu:=(hC.T.ok t i hi).1
 rw [hd] at hu
 obtain ⟨E',e1,e2,e3,e4,e5,e6⟩:=new_obj hE (.mapIter none 0 #[] 0) (.iter none 0 [] 0) (fun _=>⟨E.w.heap.size,by show (E.mu++[some E.w.heap.size])[E.S.length]? = _;rw [← hE.len];simp,alloc_last _ _⟩)
 refine ⟨E',.pointer (some ⟨E.w.heap.size,0,none⟩),?_,e2,e3,e4,.ptr _ _ _ e5 ⟨_,e6,rfl⟩⟩
 simp only [Instr.range,Sem.run_bind,run_underlying hu,Sem.run_pure,Result.andThen_ok,run_newObj_alloc]
 rw [e1]
theorem range_str {G:Nat→Option AVal} (hC:C.Ok) (hE:Wf G E) {t:TypeId} {i:TI} (hi:C.T t=some i) (hd:i.d = .string) {s:List UInt8} {x:Value}
  (hx:R E (.str s) x):ROk G E (E.S++[.siter s 0]) (.ptr E.S.length 0) ((Instr.range t x).run C.P E.w):=by
 cases hx with
 |str ba _ hs =>
  have hu:=(hC.T.ok t i hi).1
  rw [hd] at hu
  obtain ⟨E',e1,e2,e3,e4,e5,e6⟩:=new_obj hE (.stringIter ba 0) (.siter s 0) (fun _=>⟨E.w.heap.size,ba,by show (E.mu++[some E.w.heap.size])[E.S.length]? = _;rw [← hE.len];simp,alloc_last _ _,hs⟩)
  refine ⟨E',.pointer (some ⟨E.w.heap.size,0,none⟩),?_,e2,e3,e4,.ptr _ _ _ e5 ⟨_,e6,rfl⟩⟩
  rw [run_range_string E.w t ba hu,e1]
  rfl
theorem nextS_ok {G:Nat→Option AVal} (hE:Wf G E) {P:Program} {it:AVal} {x:Value} {out:Out} (hx:R E it x) (h:aNextS E.S it=some out) (ty:TypeId):ROk G E out.S out.r ((Instr.next x true ty).run P E.w):=by
 unfold aNextS at h
 split at h
 ·next k =>
  split at h
  ·next s pos hk =>
   cases hx with
   |ptr _ _ r hm hbx =>
    obtain ⟨r',ba,h1,h2,h3⟩:=hE.entry k _ hk
    obtain rfl:r'=r:=by rw [hm] at h1;injection h1 with h1;injection h1 with h1;exact h1.symm
    have hsz:ba.size=s.length:=by rw [← h3];exact (Array.length_toList).symm
    split at h
    ·next b hb =>
     split at h
     ·next hlt =>
      injection h with h
      subst h
      obtain ⟨hp,hbe⟩:=List.getElem?_eq_some_iff.1 hb
      have hp':pos<ba.size:=by omega
      have hbb:ba[pos]'hp'=b:=by
       have e1:ba[pos]'hp'=ba.data[pos]'hp':=rfl
       rw [e1,← hbe]
       subst h3
       simp
      obtain ⟨k1,k2⟩:=env_set hE hm (grownBy_putObj' E.w r' (.stringIter ba (pos+1))) _ (.siter s (pos+1)) hk rfl rfl (fun hext =>
       ⟨r',ba,hm,World.putObj_heap_same (heap_lt h2),h3⟩)
      refine ⟨_,.tuple #[.bool true,goInt pos,.int .i32 b.toNat],?_,k1,k2,rfl,.tup _ _ rfl fun q hq=>?_⟩
      ·have:=Lib.run_next_ascii_at (P:=P) E.w r' ba pos ty h2 hp' (by rw [hbb];exact hlt)
       rw [this,hbb]
       rfl
      ·match q,hq with
       |0,_=>exact .bool _
       |1,_=>exact .int _ _
       |2,_=>exact .int _ _
     ·cases h
    ·next hb =>
     injection h with h
     subst h
     have hp:¬ pos<ba.size:=by
      have:=List.getElem?_eq_none_iff.1 hb
      omega
     exact .pure hE (x:=.tuple #[.bool false]) (Lib.run_next_end_at (P:=P) E.w r' ba pos ty h2 hp) (.tup _ _ rfl fun q hq=>by
      simp at hq;subst hq;exact .bool _)
  ·cases h
 ·cases h
theorem entry_run_ok {G:Nat→Option AVal} (hE:Wf G E) {P:Program} {it:AVal} {x:Value} {out:Out} (hx:R E it x) (h:aEntry E.S it=some out) (hs:out.sd):ROk G E out.S out.r ((Instr.entry x).run P E.w):=by
 unfold aEntry at h
 split at h
 ·next k =>
  split at h
  ·next mi since seen last hk =>
   split at h
   ·next es c hmi =>
    split at h
    ·next b hb =>
     split at h
     ·next e he =>
      injection h with h
      subst h
      have hs:c=last:=hs
      subst hs
      cases hx with
      |ptr _ _ r hm hbx =>
       obtain ⟨r',h1,q,hq1,hq2,h2⟩:=hE.entry k _ hk
       obtain rfl:r'=r:=by rw [hm] at h1;injection h1 with h1;injection h1 with h1;exact h1.symm
       obtain ⟨q',ms,m1,m2,m3,m4⟩:=hE.entry mi _ hmi
       obtain rfl:q'=q:=by rw [hq1] at m1;injection m1 with m1;injection m1 with m1;exact m1.symm
       have hback:seen.toArray.back? = some b:=by rw [List.back?_toArray];exact hb
       obtain ⟨hep,as,bs,hap,hall⟩:=List.find?_eq_some_iff_append.1 he
       have hj:as.length<es.length:=by rw [hap];simp
       have hej:es[as.length]=e:=by simp [hap]
       have hbr:∀ j (h:j<es.length),(ms[j]'(by omega)).born=es[j].2.2:=fun j h=>by
        have:=(m4 j h).2.2
        rwa [getD_of _ _ _ (by omega)] at this
       have hfind:ms.find? (fun e=>e.born==b)=some (ms[as.length]'(by omega)):=by
        rw [← Array.find?_toList,List.find?_eq_some_iff_append]
        refine ⟨?_,ms.toList.take as.length,ms.toList.drop (as.length+1),?_,fun a ha=>?_⟩
        ·rw [hbr _ hj,hej];exact hep
        ·have:=List.take_append_drop as.length ms.toList
         rw [List.drop_eq_getElem_cons (by simp;omega)] at this
         simpa using this.symm
        ·obtain ⟨j,hjj,rfl⟩:=List.getElem_of_mem ha
         have hjl:j<as.length:=by simp at hjj;omega
         simp only [List.getElem_take,Array.getElem_toList]
         rw [hbr j (by omega)]
         have hm:=hall as[j] (List.getElem_mem hjl)
         have:es[j]=as[j]:=by simp [hap,hjl]
         rw [this]
         simpa using hm
       refine .pure hE (x:=.tuple #[(ms[as.length]'(by omega)).key,(ms[as.length]'(by omega)).val]) ?_ ?_
       ·simp only [Instr.entry,Sem.run_bind,getObj,Sem.run,h2,m2,Result.andThen_ok,hback,bne_self_eq_false,Bool.false_eq_true,if_false,hfind,Sem.run_pure]
       ·have:=m4 as.length hj
        rw [getD_of _ _ _ (by omega),hej] at this
        exact .tup2 this.1 this.2.1
     ·cases h
    ·cases h
   ·cases h
  ·cases h
 ·cases h
end
end
end Go.Am
