/- The abstract layer: slices.Sorted over what maps.Keys has handed back, at a map of numbers whose entries came in whatever order. -/
import Derived.Test.YteemcehaekffeaaGreatAmDeep
import Derived.Test.YteemcehaekffeaaGreatAmShelf
import Derived.Lib.SlKeysI
set_option linter.unusedVariables false
set_option linter.unusedSimpArgs false
namespace Go.Am
open Go Go.Maps Go.RowKit
noncomputable section
structure SortOk (P:Program) (fs fk:FuncId) (te tm:TypeId):Prop where
 callable:∃ fn,P.funcs[fs]? = some fn∧fn.body.isSome=true∧(fn.name == "runtime.NumGoroutine")=false
 key:P.underlying tm=some (.int .i64)
 sorted:∀ (Bm b nn:Nat) (D0:DataW Unit) (R:Value→Option (DataW Unit × List MemPlace)) (w:World),Bm<w.heap.size→w.cell? ⟨Bm,0,none⟩=some (.map (some b))→w.ownsMap P tm R b nn D0→Maps.size D0≤1000000000 →
  Calls P fs #[.func (.func fk) #[] #[.pointer (some ⟨Bm,0,none⟩)]] w fun e w'=>∃ (v:Value) (ss:List Int),e = .returned v∧ss.Perm (intKeys D0) ∧
   w'.ownsRow w.heap.size te 1 v ss.length ((ss.mergeSort fun x y=>decide (x≤y)).map (Value.int .i64))∧(v = .slice none 0 0↔ss=[])∧Below w.heap.size w w'
def vInt:Value→Int
 |.int _ n=>n
 |_=>0
theorem leI_trans (a b c:Int) (h:decide (a≤b)=true) (k:decide (b≤c)=true):decide (a≤c)=true:=by
 simp only [decide_eq_true_eq] at *;omega
theorem leI_total (a b:Int):(decide (a≤b)||decide (b≤a))=true:=by
 simp only [Bool.or_eq_true,decide_eq_true_eq];omega
theorem sorted_unique {l k:List Int} (h:l.Perm k) (hs:k.Pairwise fun x y=>decide (x≤y)=true):(l.mergeSort fun x y=>decide (x≤y))=k:=by
 refine List.Perm.eq_of_pairwise (le:=fun x y=>decide (x≤y)=true) (fun a b _ _ h k=>by simp only [decide_eq_true_eq] at *;omega) (List.pairwise_mergeSort leI_trans leI_total l) hs ?_
 exact (List.mergeSort_perm l _).trans h
theorem sorted_keys {C:Cx} {fs fk:FuncId} {te tm:TypeId} (hO:SortOk C.P fs fk te tm) {S:St} {i j c:Nat} {es:List (AVal × AVal)} {ty:TypeId} {keys:List Int} (hS:S[i]? = some (.mpx es c)) (hj:S[j]? = some (.cells [.map i] ty))
  (hk:(es.map fun e=>e.1).Perm (keys.map (AVal.int .i64))) (hs:keys.Pairwise fun x y=>decide (x<y)=true) (hr:∀ x∈keys,(Lit.int .i64 x).wf=true) (hl:keys.length≤1000000000) :
  ACall C fs [.fn (.func fk) [] [.ptr j 0]] S (.sl 1 keys.isEmpty (keys.map (AVal.int .i64)) .any) S:=by
 refine ⟨hO.callable,fun E vs hE hES hvs hrel=>?_⟩
 subst hES
 have h0:=hrel 0 (by simp)
 have hv:vs = #[vs.getD 0 undef]:=by
  apply Array.ext
  ·simpa using hvs
  ·intro q h1 h2
   have:q=0:=by simp at h2;omega
   subst this
   simp [Array.getD,h1]
 generalize vs.getD 0 undef=u at hv h0
 subst hv
 simp only [List.getElem_cons_zero] at h0
 cases h0 with
 |fn _ _ _ as bs h1 h2 hx hy =>
 have ha:as = #[]:=by apply Array.eq_empty_of_size_eq_zero;simpa using h1
 subst ha
 have hb:bs = #[bs.getD 0 undef]:=by
  apply Array.ext
  ·simpa using h2
  ·intro q k1 k2
   have:q=0:=by simp at k2;omega
   subst this
   simp [Array.getD,k1]
 have hp:=hy 0 (by simp)
 generalize bs.getD 0 undef=p at hb hp
 subst hb
 simp only [List.getElem_cons_zero] at hp
 cases hp with
 |ptr _ _ bm hm hbx =>
 obtain ⟨bm',arr,k1,k2,k3,k4⟩:=hE.entry j _ hj
 have:bm'=bm:=by rw [hm] at k1;injection k1 with k1;injection k1 with k1;exact k1.symm
 subst this
 have r0:=(k4 0 (by simp)).1
 have k3:arr.size=1:=k3
 have hcell:E.w.cell? ⟨bm',0,none⟩=some (arr.getD 0 undef):=by simp [World.cell?,k2,Array.getD,k3]
 simp only [List.getElem_cons_zero] at r0
 generalize arr.getD 0 undef=z at r0 hcell
 cases r0 with
 |map _ b hmb _ =>
 obtain ⟨es',hmx,b',ms,q1,q2,q3,q4⟩:=hE.entry i _ hS
 have:b'=b:=by rw [hmb] at q1;injection q1 with q1;injection q1 with q1;exact q1.symm
 subst this
 have hkp:(es'.map fun e=>e.1).Perm (keys.map (AVal.int .i64)):=by
  have:=hmx.perm.map (fun e:AVal × AVal=>e.1)
  rw [List.map_map] at this
  exact this.trans hk
 have hkey:∀ q (h:q<es'.length),∃ x∈keys,es'[q].1 = .int .i64 x∧(ms.getD q default).key = .int .i64 x:=by
  intro q h
  have:es'[q].1∈keys.map (AVal.int .i64):=hkp.mem_iff.1 (List.mem_map.2 ⟨_,List.getElem_mem h,rfl⟩)
  obtain ⟨x,hx,e⟩:=List.mem_map.1 this
  have r:=(q4 q h).1
  rw [← e] at r
  exact ⟨x,hx,e.symm,r.int_inv⟩
 have hmk:ms.toList.map (fun e=>e.key)=(es'.map fun e=>e.1).map fun v=>match v with|.int _ n=>Value.int .i64 n|_=>undef:=by
  apply List.ext_getElem (by simp [q3])
  intro q h1 h2
  have hq:q<es'.length:=by simpa using h2
  obtain ⟨x,_,e1,e2⟩:=hkey q hq
  have hq':q<ms.size:=by omega
  simp only [List.getElem_map,e1]
  rw [← e2]
  simp [Array.getD,hq']
 have hmkeys:(ms.toList.map (fun e=>e.key)).Perm (keys.map (Value.int .i64)):=by
  rw [hmk]
  refine (hkp.map _).trans ?_
  rw [List.map_map]
  exact List.Perm.refl _
 have hnk:keys.Nodup:=hs.imp fun h e=>by simp only [decide_eq_true_eq] at h;omega
 have hborn:ms.toList.map (fun e=>e.born)=es'.map fun e=>e.2.2:=by
  apply List.ext_getElem (by simp [q3])
  intro q h1 h2
  have hq:q<es'.length:=by simpa using h2
  have hq':q<ms.size:=by omega
  have:=(q4 q hq).2.2
  simp only [List.getElem_map]
  rw [← this]
  simp [Array.getD,hq']
 have hsz:ms.size=keys.length:=by
  have:=hmkeys.length_eq
  simpa using this
 have hrd:∀ x∈ms.toList,∃ n∈keys,x.key = .int .i64 n:=by
  intro x hx
  have:x.key∈keys.map (Value.int .i64):=hmkeys.mem_iff.1 (List.mem_map.2 ⟨x,hx,rfl⟩)
  obtain ⟨n,hn,e⟩:=List.mem_map.1 this
  exact ⟨n,hn,e.symm⟩
 have hko:∀ n∈keys,keyOf C.P tm (.int .i64 n)=some (.int .i64 n):=by
  intro n hn
  have hw:=hr n hn
  simp only [keyOf,hO.key,mapKey]
  simp [hw]
 have hRd:∀ x∈ms.toList,∃ n∈keys,x.key = .int .i64 n∧Go.WideElems.rd (H:=Unit) C.P tm (fun _=>some (.nil,[])) x=some (.int .i64 n,.nil):=by
  intro x hx
  obtain ⟨n,hn,e⟩:=hrd x hx
  refine ⟨n,hn,e,?_⟩
  unfold Go.WideElems.rd
  rw [e,hko n hn]
  rfl
 have hown:E.w.ownsMap C.P tm (fun _=>some ((.nil:DataW Unit),[])) b' ms.size (.map ((ms.toList.map (Go.WideElems.rg C.P tm fun _=>some (.nil,[]))).foldr DataW.insert [])):=by
  refine ⟨ms,c,q2,⟨?_,⟨?_,?_,?_⟩,fun x hx=>?_⟩,Nat.le_refl _,rfl⟩
  ·rw [hsz];exact Nat.le_trans hl (by decide)
  ·intro x hx
   have:x.born∈es'.map fun e=>e.2.2:=by rw [← hborn];exact List.mem_map.2 ⟨x,hx,rfl⟩
   obtain ⟨e,he,hb⟩:=List.mem_map.1 this
   rw [← hb]
   exact hmx.lt e he
  ·rw [hborn];exact hmx.nodup
  ·exact hmkeys.nodup_iff.2 (List.pairwise_map.2 (hnk.imp fun h e=>h (by injection e)))
  ·obtain ⟨n,_,_,e⟩:=hRd x hx
   exact ⟨_,e⟩
 have hik:(intKeys (.map ((ms.toList.map (Go.WideElems.rg C.P tm fun _=>some ((.nil:DataW Unit),[]))).foldr DataW.insert []))).Perm keys:=by
  unfold intKeys
  refine ((Go.WideShapes.sorted_perm _).map _).trans ?_
  rw [List.map_map]
  have:ms.toList.map (Function.comp (fun p:Lit × DataW Unit=>intOf p.1) (Go.WideElems.rg C.P tm fun _=>some (.nil,[])))=(ms.toList.map fun e=>e.key).map vInt:=by
   rw [List.map_map]
   refine List.map_congr_left fun x hx=>?_
   obtain ⟨n,_,e1,e2⟩:=hRd x hx
   simp only [Function.comp_apply,Go.WideElems.rg,e2,Option.getD_some,e1]
   rfl
  rw [this]
  refine (hmkeys.map _).trans ?_
  rw [List.map_map]
  have:(vInt ∘ Value.int .i64:Int→Int)=id:=rfl
  rw [this,List.map_id]
 have hsize:Maps.size (.map ((ms.toList.map (Go.WideElems.rg C.P tm fun _=>some ((.nil:DataW Unit),[]))).foldr DataW.insert []))≤1000000000:=by
  have h1:=hik.length_eq
  unfold intKeys at h1
  rw [List.length_map] at h1
  unfold Maps.size
  simp only [Maps.size] at *
  omega
 refine (hO.sorted bm' b' ms.size _ _ E.w (hE.lt j bm' hm) hcell hown hsize).mono ?_
 rintro e w' ⟨v,ss,rfl,hperm,hrow,hnil,hb⟩
 have hss:(ss.mergeSort fun x y=>decide (x≤y))=keys:=sorted_unique (hperm.trans hik) (hs.imp fun h=>by simp only [decide_eq_true_eq] at *;omega)
 have hlen:ss.length=keys.length:=(hperm.trans hik).length_eq
 rw [hss,hlen] at hrow
 obtain ⟨x1,x2⟩:=env_grown hE (grown_below hb)
 refine ⟨{ E with w:=w' },v,rfl,rfl,x2,x1,rfl,?_⟩
 rcases hrow.2 with ⟨rfl,hz⟩|⟨g,cap,cur,rfl,g1,g2,g3,g4,g5,g6⟩
 ·have:keys=[]:=List.eq_nil_of_length_eq_zero hz
  subst this
  exact .slnil _ _ True.intro
 ·have hne:keys≠[]:=by
   intro e
   subst e
   have:ss=[]:=List.eq_nil_of_length_eq_zero hlen
   have:=hnil.2 this
   cases this
  have he:keys.isEmpty=false:=by cases keys with|nil=>exact absurd rfl hne|cons=>rfl
  rw [he]
  have hgs:g<w'.heap.size:=(Array.getElem?_eq_some_iff.1 g2).1
  refine .sl 1 _ .any _ keys.length cap (fun q=>Value.int .i64 (keys.getD q 0)) (by simp) g3 g4 (fun q hq=>⟨rfl,?_,⟨hgs,.inr (.inl ⟨Nat.le_trans hE.base g1,fun i' hi'=>?_⟩)⟩,rfl⟩) (fun k hk=>by simp only [List.getElem_map];rfl) (fun k hk q hq=>?_) True.intro
  ·have hq':q<keys.length:=by simpa using hq
   have h1:(cur.toList.take (keys.length*1))[q]? = (keys.map (Value.int .i64))[q]?:=by rw [g6]
   rw [List.getElem?_take_of_lt (by omega)] at h1
   rw [add_form _ _ rfl]
   show World.cell? w' _=_
   simp only [World.cell?,g2,Nat.zero_add,Option.isSome_none,Bool.false_eq_true,if_false]
   rw [← Array.getElem?_toList,h1]
   simp [List.getD,hq']
  ·have:=hE.lt i' g hi'
   have hb2:=g1
   omega
  ·have hk':k<keys.length:=by simpa using hk
   simp only [List.getElem_map]
   have hq0:q=0:=by simpa [AVal.cells] using hq
   subst hq0
   have:(keys.getD (k*1+0) 0)=keys[k]:=by simp [List.getD,hk']
   rw [this]
   exact .int .i64 _
end
end Go.Am
