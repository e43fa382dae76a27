/- Numbers and bytes: wire's get, Put, the document's; Same. -/
import Derived.Test.YtodiaabcaahnjaaGreatDoorTryzSx
import Derived.Test.YtodiaabcaahnjaaGreatDoorAmSimp
import Derived.Test.YtodiaabcaahnjaaGreatDoorAmYield
import Derived.Test.YtodiaabcaahnjaaGreatDoorAmWalkB
import Derived.Test.YtodiaabcaahnjaaGreatDoorAmFreshZ
import Derived.Test.YtodiaabcaahnjaaGreatDoorAmLib
set_option linter.unusedVariables false
set_option linter.unusedSimpArgs false
section
namespace Go.Am
open Go Go.Proofs
set_option maxHeartbeats 4000000
set_option maxRecDepth 100000
section
attribute [local irreducible] aC aL thenQ blockQ scopeQ ALoop AWp
theorem take_succ_getD (l:List UInt8) (k:Nat) (h:k<l.length):l.take (k+1)=l.take k++[l.getD k 0]:=by
 rw [List.take_succ_eq_append_getElem h];simp [List.getD,h]
theorem foldMM_two (f:Int→Int→Int) (k:IntKind) (a b:Int):foldMM f [.int k a,.int k b]=some (.int k (f a b)):=rfl
theorem minI_l {a b:Int} (h:a≤b):minI a b=a:=by unfold minI;rw [if_neg (by omega)]
theorem minI_r {a b:Int} (h:b≤a):minI a b=b:=by
 unfold minI
 split
 ·rfl
 ·omega
attribute [go_sem] foldMM_two minI_l minI_r
def putl (n:Nat) (size:Nat):List UInt8:=(List.range size).map fun k=>UInt8.ofNat (n/256 ^ k%256)
@[simp] theorem putl_length (n k:Nat):(putl n k).length=k:=by simp [putl]
attribute [go_sem] putl_length
theorem ofNat_toNat8 (m:Nat) (h:m<256):(UInt8.ofNat m).toNat=m:=by simp [UInt8.toNat_ofNat'];omega
theorem drop_getD (l:List UInt8) (k:Nat) (h:k<l.length):l.drop k=l.getD k 0::l.drop (k+1):=by
 rw [List.drop_eq_getElem_cons h];simp [List.getD,h]
theorem ref_same (n1 n2:Bool) (a b:List UInt8) (ha:a.length≤1048576) (hb:b.length≤1048576):APure cx 40 [.sl 1 n1 (bl a) .any,.sl 1 n2 (bl b) .any] (.bool (decide (a=b))):=by
 refine pure_fnK cxOk Tryz.func40 (fun _=>false) (fun _=>none) (by kernel_rfl) (by dsimp only [Tryz.f40,go_sem,seval,liteO,Option.map,List.map];exact .mk _) ?_
 dsimp only [Tryz.f40,frame0,List.zipIdx,List.map,Nat.reduceAdd]
 try simp only [List.getElem?_toArray,List.getElem?_cons_succ,List.getElem?_cons_zero,Option.bind_some]
 repeat' (first|refine aC_seq ?_|refine aC_reg rfl ?_|refine aC_ret ?_|refine thenQ_normal ?_|refine aL_nil ?_|(apply aL_step;(·exact True.intro);(iterate 2 (·simp (disch:=omega) only [go_sem,seval]<;>with_reducible rfl));(·simp only [go_sem]<;>with_reducible rfl))|fail)
 all_goals try (first|exact True.intro|exact not_false|omega|(simp (disch:=omega) only [go_sem,seval]<;>omega))
 all_goals try (simp (disch:=omega) only [go_sem,seval])
 all_goals try simp
end
end Go.Am
end
section
namespace Go.Am
open Go Go.Proofs
set_option maxHeartbeats 4000000
set_option maxRecDepth 100000
section
attribute [local irreducible] aC aL thenQ blockQ scopeQ ALoop AWp
def hexd (k:Nat):UInt8:=([48,49,50,51,52,53,54,55,56,57,97,98,99,100,101,102]:List UInt8).getD k 0
def hexl:List UInt8→List UInt8
 |[]=>[]
 |b::r=>hexd (b.toNat/16)::hexd (b.toNat%16)::hexl r
theorem hexl_append (a b:List UInt8):hexl (a++b)=hexl a++hexl b:=by
 induction a with
 |nil=>rfl
 |cons x a ih=>simp [hexl,ih]
theorem hexl_length (a:List UInt8):(hexl a).length=2*a.length:=by
 induction a with
 |nil=>rfl
 |cons x a ih=>simp [hexl,ih];omega
def bsl (t:Tag) (ls:List (Bool × List UInt8)):List AVal:=ls.map fun p=>.sl 1 p.1 (bl p.2) t
@[simp] theorem bsl_length (t:Tag) (ls:List (Bool × List UInt8)):(bsl t ls).length=ls.length:=by simp [bsl]
theorem getD_bsl (t:Tag) (ls:List (Bool × List UInt8)) (n:Nat) (d:AVal) (h:n<ls.length):(bsl t ls).getD n d = .sl 1 (ls.getD n (true,[])).1 (bl (ls.getD n (true,[])).2) t:=by simp [bsl,List.getD,h]
theorem bsl_append1 (t:Tag) (ls:List (Bool × List UInt8)) (b:Bool) (l:List UInt8):bsl t ls++[.sl 1 b (bl l) t]=bsl t (ls++[(b,l)]):=by simp [bsl]
@[simp] theorem closed_bsl_any (ls:List (Bool × List UInt8)):(∀ x∈bsl .any ls,Closed x)↔True:=⟨fun _=>trivial,fun _ x hx=>by obtain ⟨b,_,rfl⟩:=List.mem_map.1 hx;simp⟩
@[simp] theorem closed_bsl_full (ls:List (Bool × List UInt8)):(∀ x∈bsl .full ls,Closed x)↔True:=⟨fun _=>trivial,fun _ x hx=>by obtain ⟨b,_,rfl⟩:=List.mem_map.1 hx;simp⟩
attribute [go_sem] bsl_length getD_bsl bsl_append1
def bslT (ls:List (Tag × Bool × List UInt8)):List AVal:=ls.map fun p=>.sl 1 p.2.1 (bl p.2.2) p.1
@[simp] theorem bslT_length (ls:List (Tag × Bool × List UInt8)):(bslT ls).length=ls.length:=by simp [bslT]
theorem getD_bslT (ls:List (Tag × Bool × List UInt8)) (n:Nat) (d:AVal) (h:n<ls.length):(bslT ls).getD n d = .sl 1 (ls.getD n (.any,true,[])).2.1 (bl (ls.getD n (.any,true,[])).2.2) (ls.getD n (.any,true,[])).1:=by simp [bslT,List.getD,h]
attribute [go_sem] bslT_length getD_bslT
def digl (c:UInt8):Nat:=if 48≤c.toNat∧c.toNat≤57 then c.toNat-48 else if 97≤c.toNat∧c.toNat≤102 then c.toNat-87 else 16
def unpre:List UInt8→List UInt8
 |a::b::r=>UInt8.ofNat (digl a*16+digl b)::unpre r
 |_=>[]
def goodp:List UInt8→Bool
 |a::b::r=>decide (digl a≤15∧digl b≤15)&&goodp r
 |[]=>true
 |[_]=>false
theorem goodp_append:∀ (n:Nat) (l k:List UInt8),l.length=2*n→goodp (l++k)=(goodp l&&goodp k)
 |0,[],k,_=>by simp [goodp]
 |n+1,a::b::r,k,h=>by
  simp only [List.length_cons] at h
  simp only [List.cons_append,goodp]
  rw [goodp_append n r k (by omega),Bool.and_assoc]
 |n+1,[a],k,h=>by simp only [List.length_cons,List.length_nil] at h;omega
 |n+1,[],k,h=>by simp only [List.length_nil] at h;omega
theorem unpre_append:∀ (n:Nat) (l k:List UInt8),l.length=2*n→unpre (l++k)=unpre l++unpre k
 |0,[],k,_=>by simp [unpre]
 |n+1,a::b::r,k,h=>by
  simp only [List.length_cons] at h
  simp only [List.cons_append,unpre]
  rw [unpre_append n r k (by omega)]
 |n+1,[a],k,h=>by simp only [List.length_cons,List.length_nil] at h;omega
 |n+1,[],k,h=>by simp only [List.length_nil] at h;omega
theorem unpre_length:∀ (n:Nat) (l:List UInt8),l.length=2*n→(unpre l).length=n
 |0,[],_=>rfl
 |n+1,a::b::r,h=>by
  simp only [List.length_cons] at h
  simp only [unpre,List.length_cons]
  rw [unpre_length n r (by omega)]
 |n+1,[a],h=>by simp only [List.length_cons,List.length_nil] at h;omega
 |n+1,[],h=>by simp only [List.length_nil] at h;omega
theorem goodp_odd:∀ (n:Nat) (l:List UInt8),l.length=2*n+1→goodp l=false
 |0,[a],_=>rfl
 |n+1,a::b::r,h=>by
  simp only [List.length_cons] at h
  simp only [goodp]
  rw [goodp_odd n r (by omega),Bool.and_false]
 |0,a::b::r,h=>by simp only [List.length_cons] at h;omega
 |0,[],h=>by simp only [List.length_nil] at h;omega
 |n+1,[a],h=>by simp only [List.length_cons,List.length_nil] at h;omega
 |n+1,[],h=>by simp only [List.length_nil] at h;omega
end
end Go.Am
end
section
namespace Go.Am
open Go Go.Proofs
set_option maxHeartbeats 4000000
set_option maxRecDepth 100000
section
attribute [local irreducible] aC aL thenQ blockQ scopeQ ALoop AWp
def idxB (s:List UInt8) (c:UInt8):Int:=match s.findIdx? (·== c) with|some i=>(i:Int)|none => -1
theorem find_range (b:ByteArray) (c:UInt8):(List.range b.size).find? (fun i=>b[i]! == c)=b.data.toList.findIdx? (·== c):=by
 have hg:∀ i (h:i<b.size),b[i]! = b.data.toList[i]'(by rw [Array.length_toList];exact h):=fun i h=>by
  rw [getElem!_pos b i h];rfl
 apply Option.ext
 intro i
 rw [List.find?_range_eq_some,List.findIdx?_eq_some_iff_getElem]
 constructor
 ·rintro ⟨h1,h2,h3⟩
  have h2':i<b.size:=by simpa using h2
  refine ⟨by rw [Array.length_toList];exact h2',by rw [← hg i h2'];exact h1,fun j hj=>?_⟩
  have:=h3 j hj
  rw [hg j (by omega)] at this
  simpa using this
 ·rintro ⟨h1,h2,h3⟩
  have h1':i<b.size:=by rw [Array.length_toList] at h1;exact h1
  refine ⟨by rw [hg i h1'];exact h2,by simpa using h1',fun j hj=>?_⟩
  have:=h3 j hj
  rw [hg j (by omega)]
  simpa using this
theorem indexByte_two (x y:Value):Extern.BytealgIndexByte.indexByte #[x,y]=(do
  let b ← Extern.Bytes.bytesOf x
  let c ← Extern.Bytes.asByte y
  match (List.range b.size).find? fun i=>b[i]! == c with
  |some i=>pure (goInt i)
  |none=>pure (goInt (-1))):=rfl
theorem ext_indexByte (s:List UInt8) (c:UInt8):AExt cx 127 [.str s,.int .u8 c.toNat] (.int .i64 (idxB s c)):=by
 refine ⟨_,Extern.BytealgIndexByte.indexByte,Tryz.func127,by kernel_rfl,by kernel_rfl,by kernel_rfl,by kernel_rfl,?_⟩
 intro E vs hE hn hr
 have r0:=hr 0 (by simp)
 have r1:=hr 1 (by simp)
 obtain ⟨l⟩:=vs
 match l,hn with
 |[x,y],_ =>
  have r0:R E (.str s) x:=r0
  have r1:R E (.int .u8 (c.toNat:Int)) y:=r1
  cases r0 with
  |str b _ hb =>
   cases r1 with
   |int =>
    refine ⟨.int .i64 (idxB s c),?_,.int _ _⟩
    rw [indexByte_two]
    simp only [Extern.Bytes.bytesOf,Extern.Bytes.asByte,Sem.run_bind,Sem.run_pure,Result.andThen_ok,Int.toNat_natCast]
    have hc:c.toNat.toUInt8=c:=by simp
    rw [hc,find_range,hb]
    unfold idxB
    cases s.findIdx? (·== c)<;>rfl
theorem slite_indexByte (s:List UInt8) (c:UInt8):APure cx 105 [.str s,.int .u8 c.toNat] (.int .i64 (idxB s c)):=by
 refine pure_fnK cxOk Tryz.func105 (fun _=>false) (fun _=>none) (by kernel_rfl) (by dsimp only [Tryz.f105,go_sem,seval,liteO,Option.map,List.map];exact .mk _) ?_
 dsimp only [Tryz.f105,frame0,List.zipIdx,List.map,Nat.reduceAdd]
 try simp only [List.getElem?_toArray,List.getElem?_cons_succ,List.getElem?_cons_zero,Option.bind_some]
 repeat' (first|refine aC_seq ?_|refine aC_reg rfl ?_|refine aC_ret ?_|refine thenQ_normal ?_|refine aL_nil ?_|(apply aL_step;(·exact True.intro);(iterate 2 (·simp (disch:=omega) only [go_sem,seval]<;>with_reducible rfl));(·simp only [go_sem]<;>with_reducible rfl))|(apply aL_ext (ext_indexByte _ _);(case hg=>(simp (disch:=omega) only [go_sem,seval]));(case hx=>(simp (disch:=omega) only [go_sem,seval]<;>with_reducible rfl));(case ha=>(simp (disch:=omega) only [go_sem,seval]<;>with_reducible rfl));(case he=>(with_reducible rfl));(case hf=>(simp only [go_sem]<;>with_reducible rfl)))|fail)
 all_goals try (first|exact True.intro|exact not_false|omega|(simp (disch:=omega) only [go_sem,seval]<;>omega))
 all_goals (simp (disch:=omega) only [go_sem,seval])
 all_goals simp
theorem strings_indexByte (s:List UInt8) (c:UInt8):APure cx 72 [.str s,.int .u8 c.toNat] (.int .i64 (idxB s c)):=by
 refine pure_fnK cxOk Tryz.func72 (fun _=>false) (fun _=>none) (by kernel_rfl) (by dsimp only [Tryz.f72,go_sem,seval,liteO,Option.map,List.map];exact .mk _) ?_
 dsimp only [Tryz.f72,frame0,List.zipIdx,List.map,Nat.reduceAdd]
 try simp only [List.getElem?_toArray,List.getElem?_cons_succ,List.getElem?_cons_zero,Option.bind_some]
 repeat' (first|refine aC_seq ?_|refine aC_reg rfl ?_|refine aC_ret ?_|refine thenQ_normal ?_|refine aL_nil ?_|(apply aL_step;(·exact True.intro);(iterate 2 (·simp (disch:=omega) only [go_sem,seval]<;>with_reducible rfl));(·simp only [go_sem]<;>with_reducible rfl))|(apply aL_pK cxG (slite_indexByte _ _);(iterate 2 (·simp (disch:=omega) only [go_sem,seval]<;>with_reducible rfl));(·simp only [go_sem]<;>with_reducible rfl);(·simp))|fail)
 all_goals try (first|exact True.intro|exact not_false|omega|(simp (disch:=omega) only [go_sem,seval]<;>omega))
 all_goals (simp (disch:=omega) only [go_sem,seval])
 all_goals simp
def digs:List UInt8:=[48,49,50,51,52,53,54,55,56,57,97,98,99,100,101,102]
theorem idxB_all:((List.range 256).all fun n=>decide (idxB digs (UInt8.ofNat n)=if digl (UInt8.ofNat n)≤15 then (digl (UInt8.ofNat n):Int) else -1))=true:=by kernel_rfl
theorem idxB_digs (c:UInt8):idxB [48,49,50,51,52,53,54,55,56,57,97,98,99,100,101,102] c=if digl c≤15 then (digl c:Int) else -1:=by
 have h:=List.all_eq_true.1 idxB_all c.toNat (List.mem_range.2 c.toNat_lt)
 rw [UInt8.ofNat_toNat] at h
 exact of_decide_eq_true h
theorem or16_all:((List.range 16).all fun a=>(List.range 16).all fun b=>decide (bits .or .i64 ((a:Int)*16) (b:Int)=((a*16+b:Nat):Int)))=true:=by kernel_rfl
theorem or16 (a b:Nat) (ha:a≤15) (hb:b≤15):bits .or .i64 ((a:Int)*16) (b:Int)=((a*16+b:Nat):Int):=by
 have h:=List.all_eq_true.1 (List.all_eq_true.1 or16_all a (List.mem_range.2 (by omega))) b (List.mem_range.2 (by omega))
 exact of_decide_eq_true h
theorem fin (k m:Nat) (s:List UInt8) (hm:2*k=m) (hpar:(s.length:Int)%2=0) (h:s.length≤m) (hgood:goodp (s.take m)=true) (hlen:(unpre (s.take m)).length=k) (fr:Fr) (S:St) (z:AVal) (w:Nat) (hz:z = .sl 1 (decide (k=0)) (bl (unpre (s.take m))) (.grow w)) :
  isRet .ret∧match aRes cx ((3,.int .i64 0)::(2,z)::fr) S [ResultVar.tmp 2,ResultVar.tmp 3] with
  |some (sd,v)=>sd∧(era v=if goodp s=true then .tup [.sl 1 (unpre s).isEmpty (bl (unpre s)) .any,.int .i64 0] else .tup [.sl 1 true [] .any,.int .i64 4]) ∧
    Closed (if goodp s=true then .tup [.sl 1 (unpre s).isEmpty (bl (unpre s)) .any,.int .i64 0] else .tup [.sl 1 true [] .any,.int .i64 4])
  |none=>False:=by
 have hm2:s.take m=s:=List.take_of_length_le h
 rw [hm2] at hgood hlen hz
 subst hz
 have e6:decide (k=0)=(unpre s).isEmpty:=by cases hu:unpre s<;>simp [hu] at hlen ⊢<;>omega
 simp (disch:=omega) only [go_sem,seval,hgood,e6]
 simp
theorem wire_unhex (s:List UInt8) (hl:s.length≤1048576):APure cx 33 [.str s]
  (if goodp s=true then .tup [.sl 1 (unpre s).isEmpty (bl (unpre s)) .any,.int .i64 0] else .tup [.sl 1 true [] .any,.int .i64 4]):=by
 by_cases hpar:(s.length:Int)%2=0
 ·refine pure_fnK cxOk Tryz.func33 (fun f=>f==72) (fun _=>none) (by kernel_rfl) (by dsimp only [Tryz.f33,go_sem,seval,liteO,Option.map,List.map];exact .mk _) ?_
  dsimp only [Tryz.f33,frame0,List.zipIdx,List.map,Nat.reduceAdd]
  try simp only [List.getElem?_toArray,List.getElem?_cons_succ,List.getElem?_cons_zero,Option.bind_some]
  repeat' (first|refine aC_seq ?_|refine aC_reg rfl ?_|refine aC_block ?_|refine aC_skip ?_|refine aC_loop ?_|refine aC_scope ?_|refine thenQ_normal ?_|refine aL_nil ?_|(apply aL_step;(·exact True.intro);(iterate 2 (·simp (disch:=omega) only [go_sem,seval]<;>with_reducible rfl));(·simp only [go_sem]<;>with_reducible rfl))|fail)
  all_goals try (first|exact True.intro|exact not_false|omega|(simp (disch:=omega) only [go_sem,seval]<;>omega))
  refine loop_rule (cxOk.wp _ _) (σ:=Nat) (fun k=>[(4,.sl 1 (decide (k=0)) (bl (unpre (s.take (2*k)))) (.grow 0)),(5,.bool true),(6,.int .i64 (2*k:Nat)),(0,.str s)])
   (fun k=>[.grow k 1 5]) (fun k=>s.length-2*k) (fun k=>2*k≤s.length∧goodp (s.take (2*k))=true) 0 (GStep.nil 4 1 5 rfl) ⟨⟨Nat.zero_le _,rfl⟩,Sub.of_all (by simp [Fr.get,unpre,bl,hpar]),by simp⟩ ?_
  rintro k ⟨hk,hgood⟩
  have hlen:(unpre (s.take (2*k))).length=k:=unpre_length k _ (by simp;omega)
  have hsplit:2*k+1<s.length→s=s.take (2*k)++(s.getD (2*k) 0::s.getD (2*k+1) 0::s.drop (2*k+2)):=fun h=>by
   conv=>lhs;rw [← List.take_append_drop (2*k) s,drop_getD s (2*k) (by omega),drop_getD s (2*k+1) h]
  generalize hm:2*k=m at *
  have ea:=idxB_digs (s.getD m 0)
  have eb:=idxB_digs (s.getD (m+1) 0)
  by_cases ha:digl (s.getD m 0)≤15
  ·rw [if_pos ha] at ea
   by_cases hb:digl (s.getD (m+1) 0)≤15
   ·rw [if_pos hb] at eb
    have ho:=or16 _ _ ha hb
    have ho2:IntKind.u8.wrap ((digl (s.getD m 0)*16+digl (s.getD (m+1) 0):Nat):Int)=(((UInt8.ofNat (digl (s.getD m 0)*16+digl (s.getD (m+1) 0))).toNat:Nat):Int):=by
     rw [ofNat_toNat8 _ (by omega)];exact IntWalk.u8_in _ ⟨by omega,by omega⟩
    repeat' (first|refine aC_seq ?_|refine aC_reg rfl ?_|refine aC_block ?_|refine aC_skip ?_|refine scopeQ_ret ?_|refine aC_exit ?_|refine aC_ret ?_|refine thenQ_normal ?_|refine blockQ_normal ?_|refine thenQ_exit ?_|refine blockQ_hit ?_|refine aL_nil ?_|(apply aL_step;(·exact True.intro);(iterate 2 (·simp (disch:=omega) only [go_sem,seval,ea,eb,ho,ho2]<;>with_reducible rfl));(·simp only [go_sem]<;>with_reducible rfl))|(apply aL_guardP;(·simp (disch:=omega) only [go_sem,seval,ea,eb,ho,ho2]<;>with_reducible rfl);all_goals (intro h;first|(exfalso;omega)|(simp only [h,decide_true,decide_false,not_true,not_false_iff])))|(refine aC_condF ?_ ?_;(·simp (disch:=omega) only [go_sem,seval,ea,eb,ho,ho2]))|(refine aC_condP (by simp (disch:=omega) only [go_sem,seval,ea,eb,ho,ho2]<;>with_reducible rfl) ?_ ?_<;>(intro h;first|(exfalso;omega)|skip))|(apply aL_pK cxG (strings_indexByte _ _);(iterate 2 (·simp (disch:=omega) only [go_sem,seval,ea,eb,ho,ho2]<;>with_reducible rfl));(·simp only [go_sem]<;>with_reducible rfl);(·simp))|fail)
    all_goals try (first|exact True.intro|exact not_false|omega|(simp (disch:=omega) only [go_sem,seval]<;>omega))
    ·have hlt:m+1<s.length:=by omega
     have e3:s.take (2*(k+1))=s.take m++[s.getD m 0,s.getD (m+1) 0]:=by
      rw [show 2*(k+1)=m+1+1 by omega,take_succ_getD s (m+1) hlt,take_succ_getD s m (by omega),List.append_assoc];rfl
     have e4:unpre (s.take (2*(k+1)))=unpre (s.take m)++[UInt8.ofNat (digl (s.getD m 0)*16+digl (s.getD (m+1) 0))]:=by
      rw [e3,unpre_append k _ _ (by simp;omega)];rfl
     refine ⟨k+1,⟨by omega,?_⟩,Sub.of_all ?_,by rw [hlen],by omega⟩
     ·rw [e3,goodp_append k _ _ (by simp;omega),hgood];simp only [goodp,Bool.and_true,Bool.true_and,decide_eq_true_eq];omega
     ·simp (disch:=omega) only [go_sem,seval,e4,ho,ho2,append_bl1]
      simp
      omega
    ·rw [hlen];exact ⟨rfl,by omega,by omega⟩
    ·exact fin k m s hm hpar (by omega) hgood hlen _ _ _ _ rfl
   ·rw [if_neg hb] at eb
    repeat' (first|refine aC_seq ?_|refine aC_reg rfl ?_|refine aC_block ?_|refine aC_skip ?_|refine scopeQ_ret ?_|refine aC_exit ?_|refine aC_ret ?_|refine thenQ_normal ?_|refine thenQ_ret ?_|refine thenQ_exit ?_|refine blockQ_hit ?_|refine blockQ_miss rfl ?_|refine aL_nil ?_|(apply aL_step;(·exact True.intro);(iterate 2 (·simp (disch:=omega) only [go_sem,seval,ea,eb]<;>with_reducible rfl));(·simp only [go_sem]<;>with_reducible rfl))|(apply aL_guardP;(·simp (disch:=omega) only [go_sem,seval,ea,eb]<;>with_reducible rfl);all_goals (intro h;first|(exfalso;omega)|(simp only [h,decide_true,decide_false,not_true,not_false_iff])))|(refine aC_condT ?_ ?_;(·simp (disch:=omega) only [go_sem,seval,ea,eb]))|(refine aC_condF ?_ ?_;(·simp (disch:=omega) only [go_sem,seval,ea,eb]))|(refine aC_condP (by simp (disch:=omega) only [go_sem,seval,ea,eb]<;>with_reducible rfl) ?_ ?_<;>(intro h;first|(exfalso;omega)|skip))|(apply aL_pK cxG (strings_indexByte _ _);(iterate 2 (·simp (disch:=omega) only [go_sem,seval,ea,eb]<;>with_reducible rfl));(·simp only [go_sem]<;>with_reducible rfl);(·simp))|fail)
    all_goals try (first|exact True.intro|exact not_false|omega|(simp (disch:=omega) only [go_sem,seval]<;>omega))
    ·have hlt:m+1<s.length:=by omega
     have e:goodp s=false:=by rw [hsplit hlt,goodp_append k _ _ (by simp;omega)];simp only [goodp];rw [show decide (digl (s.getD m 0)≤15∧digl (s.getD (m+1) 0)≤15)=false from decide_eq_false (by omega)];simp only [Bool.false_and,Bool.and_false]
     simp (disch:=omega) only [go_sem,seval,e]
     simp
    ·exact fin k m s hm hpar (by omega) hgood hlen _ _ _ _ rfl
  ·rw [if_neg ha] at ea
   repeat' (first|refine aC_seq ?_|refine aC_reg rfl ?_|refine aC_block ?_|refine aC_skip ?_|refine scopeQ_ret ?_|refine aC_exit ?_|refine aC_ret ?_|refine thenQ_normal ?_|refine thenQ_ret ?_|refine thenQ_exit ?_|refine blockQ_hit ?_|refine blockQ_miss rfl ?_|refine aL_nil ?_|(apply aL_step;(·exact True.intro);(iterate 2 (·simp (disch:=omega) only [go_sem,seval,ea]<;>with_reducible rfl));(·simp only [go_sem]<;>with_reducible rfl))|(refine aL_skip ?_ (by simp only [go_sem]<;>with_reducible rfl) ?_;(·simp (disch:=omega) only [go_sem,seval,ea]))|(refine aC_condT ?_ ?_;(·simp (disch:=omega) only [go_sem,seval,ea]))|(refine aC_condF ?_ ?_;(·simp (disch:=omega) only [go_sem,seval,ea]))|(refine aC_condP (by simp (disch:=omega) only [go_sem,seval,ea]<;>with_reducible rfl) ?_ ?_<;>(intro h;first|(exfalso;omega)|skip))|(apply aL_pK cxG (strings_indexByte _ _);(iterate 2 (·simp (disch:=omega) only [go_sem,seval,ea]<;>with_reducible rfl));(·simp only [go_sem]<;>with_reducible rfl);(·simp))|fail)
   all_goals try (first|exact True.intro|exact not_false|omega|(simp (disch:=omega) only [go_sem,seval]<;>omega))
   ·have hlt:m+1<s.length:=by omega
    have e:goodp s=false:=by rw [hsplit hlt,goodp_append k _ _ (by simp;omega)];simp only [goodp];rw [show decide (digl (s.getD m 0)≤15∧digl (s.getD (m+1) 0)≤15)=false from decide_eq_false (by omega)];simp only [Bool.false_and,Bool.and_false]
    simp (disch:=omega) only [go_sem,seval,e]
    simp
   ·exact fin k m s hm hpar (by omega) hgood hlen _ _ _ _ rfl
 ·refine pure_fnK cxOk Tryz.func33 (fun f=>f==72) (fun _=>none) (by kernel_rfl) (by dsimp only [Tryz.f33,go_sem,seval,liteO,Option.map,List.map];exact .mk _) ?_
  dsimp only [Tryz.f33,frame0,List.zipIdx,List.map,Nat.reduceAdd]
  try simp only [List.getElem?_toArray,List.getElem?_cons_succ,List.getElem?_cons_zero,Option.bind_some]
  repeat' (first|refine aC_seq ?_|refine aC_reg rfl ?_|refine aC_block ?_|refine aC_skip ?_|refine aC_loop ?_|refine aC_scope ?_|refine thenQ_normal ?_|refine aL_nil ?_|(apply aL_step;(·exact True.intro);(iterate 2 (·simp (disch:=omega) only [go_sem,seval]<;>with_reducible rfl));(·simp only [go_sem]<;>with_reducible rfl))|fail)
  all_goals try (first|exact True.intro|exact not_false|omega|(simp (disch:=omega) only [go_sem,seval]<;>omega))
  have e:=goodp_odd (s.length/2) s (by omega)
  refine loop_rule (cxOk.wp _ _) (σ:=Unit) (fun _=>[(5,.bool false),(0,.str s)]) (fun _=>[]) (fun _=>0) (fun _=>True) () (GStep.refl _ _) ⟨trivial,Sub.of_all (by simp [Fr.get,hpar]),rfl⟩ ?_
  intro _ _
  repeat' (first|refine aC_seq ?_|refine aC_reg rfl ?_|refine scopeQ_ret ?_|refine aC_exit ?_|refine aC_ret ?_|refine thenQ_normal ?_|refine thenQ_ret ?_|refine thenQ_exit ?_|refine blockQ_hit ?_|refine aL_nil ?_|(apply aL_step;(·exact True.intro);(iterate 2 (·simp (disch:=omega) only [go_sem,seval]<;>with_reducible rfl));(·simp only [go_sem]<;>with_reducible rfl))|(refine aL_skip ?_ (by simp only [go_sem]<;>with_reducible rfl) ?_;(·simp (disch:=omega) only [go_sem,seval]))|(refine aC_condT ?_ ?_;(·simp (disch:=omega) only [go_sem,seval]))|(refine aC_condF ?_ ?_;(·simp (disch:=omega) only [go_sem,seval]))|fail)
  all_goals try (first|exact True.intro|exact not_false|omega|(simp (disch:=omega) only [go_sem,seval]<;>omega))
  all_goals (simp (disch:=omega) only [go_sem,seval,e])
  all_goals simp
end
end Go.Am
end
