/- Arguments: lists of acts. -/
import Derived.Test.YteemcehaekffeaaGreatO44
import Derived.Test.YteemcehaekffeaaGreatAmRow
import Derived.Test.YteemcehaekffeaaGreatRows
set_option linter.unusedVariables false
set_option linter.unusedSimpArgs false
namespace Go.Am
open Go Go.Proofs
set_option maxRecDepth 100000
theorem argC_int {P:Program} {k:Nat} {t:TypeId} {q:IntKind} {cs:List AVal} (hu:P.underlying t=some (.int q)) (h:ArgC P k t cs):∃ n:Int,cs=[.int q n]∧q.min≤n∧n≤q.max:=by
 cases k with
 |zero=>exact h.elim
 |succ k =>
  unfold ArgC at h
  rw [hu] at h
  obtain ⟨n,rfl,hw⟩:=h
  refine ⟨n,rfl,?_⟩
  simpa [Lit.wf] using hw
theorem argC_u64 {k:Nat} {cs:List AVal} (h:ArgC Tryz.prog k 31 cs):∃ n:Nat,cs=[.int .u64 (n:Int)]∧n<18446744073709551616:=by
 obtain ⟨n,rfl,hn0,hn1⟩:=argC_int Tryz.underlying31 h
 have hn0:0≤n:=hn0
 have hn1:n≤18446744073709551615:=hn1
 obtain ⟨w,rfl⟩:=Int.eq_ofNat_of_zero_le hn0
 exact ⟨w,rfl,by omega⟩
theorem argC_bool {k:Nat} {cs:List AVal} (h:ArgC Tryz.prog (k+1) 4 cs):∃ b:Bool,cs=[.bool b]:=by
 unfold ArgC at h
 rw [Tryz.underlying4] at h
 exact h
theorem flat_bytes (ps:List (List AVal)) (h:∀ p∈ps,∃ n:Int,p=[.int .u8 n]∧IntKind.u8.min≤n∧n≤IntKind.u8.max) :
  ∃ L:List UInt8,L.length=ps.length∧ps.flatten=bl L:=by
 induction ps with
 |nil=>exact ⟨[],rfl,rfl⟩
 |cons p ps ih =>
  obtain ⟨n,rfl,hn0,hn1⟩:=h p (List.mem_cons_self ..)
  have hn0:0≤n:=hn0
  have hn1:n≤255:=hn1
  obtain ⟨w,rfl⟩:=Int.eq_ofNat_of_zero_le hn0
  obtain ⟨L,h1,h2⟩:=ih fun q hq=>h q (List.mem_cons_of_mem _ hq)
  have e:(UInt8.ofNat w).toNat=w:=by simp [UInt8.toNat_ofNat'];omega
  refine ⟨UInt8.ofNat w::L,by simp [h1],?_⟩
  rw [List.flatten_cons,h2]
  simp [bl,bv,e]
theorem flat_words (ps:List (List AVal)) (h:∀ p∈ps,∃ n:Nat,p=[.int .u64 (n:Int)]∧n<18446744073709551616) :
  ∃ L:List Nat,L.length=ps.length∧ps.flatten=wl L∧∀ n∈L,n<18446744073709551616:=by
 induction ps with
 |nil=>exact ⟨[],rfl,rfl,fun _ h=>(by cases h)⟩
 |cons p ps ih =>
  obtain ⟨n,rfl,hn⟩:=h p (List.mem_cons_self ..)
  obtain ⟨L,h1,h2,h3⟩:=ih fun q hq=>h q (List.mem_cons_of_mem _ hq)
  refine ⟨n::L,by simp [h1],?_,fun m hm=>?_⟩
  ·rw [List.flatten_cons,h2]
   simp [wl]
  ·rcases List.mem_cons.1 hm with rfl|hm
   ·exact hn
   ·exact h3 m hm
theorem argC_digest {k:Nat} {cs:List AVal} (h:ArgC Tryz.prog (k+2) 34 cs):∃ L:List UInt8,cs=bl L∧L.length=32:=by
 unfold ArgC at h
 rw [Tryz.underlying34] at h
 obtain ⟨qs,rfl,hl,hq⟩:=h
 obtain ⟨L,hL,hf⟩:=flat_bytes qs (fun p hp=>argC_int Tryz.underlying5 (hq p hp))
 exact ⟨L,hf,by omega⟩
theorem argC_granule {k:Nat} {cs:List AVal} (h:ArgC Tryz.prog (k+2) 44 cs):∃ L:List UInt8,cs=bl L∧L.length=128:=by
 unfold ArgC at h
 rw [Tryz.underlying44] at h
 obtain ⟨qs,rfl,hl,hq⟩:=h
 obtain ⟨L,hL,hf⟩:=flat_bytes qs (fun p hp=>argC_int Tryz.underlying5 (hq p hp))
 exact ⟨L,hf,by omega⟩
theorem argC_regs {k:Nat} {cs:List AVal} (h:ArgC Tryz.prog (k+2) 45 cs):∃ L:List Nat,cs=wl L∧L.length=8∧∀ n∈L,n<18446744073709551616:=by
 unfold ArgC at h
 rw [Tryz.underlying45] at h
 obtain ⟨qs,rfl,hl,hq⟩:=h
 obtain ⟨L,hL,hf,hb⟩:=flat_words qs (fun p hp=>argC_u64 (hq p hp))
 exact ⟨L,hf,by omega,hb⟩
theorem argC_recp {k:Nat} {cs:List AVal} (h:ArgC Tryz.prog (k+3) 47 cs):∃ r:Rp,cs=rpC r∧r.Ok:=by
 unfold ArgC at h
 rw [Tryz.underlying47] at h
 obtain ⟨ps,rfl,hps⟩:=h
 cases hps with
 |cons p1 t1 =>
 cases t1 with
 |cons p2 t2 =>
 cases t2 with
 |cons p3 t3 =>
 cases t3
 obtain ⟨pc,rfl,hpc⟩:=argC_u64 p1
 obtain ⟨rg,rfl,hl,hb⟩:=argC_regs p2
 obtain ⟨rn,rfl⟩:=argC_bool p3
 exact ⟨⟨pc,rg,rn⟩,by simp [rpC],⟨hl,hb,hpc⟩⟩
theorem argC_act {k:Nat} {cs:List AVal} (h:ArgC Tryz.prog (k+5) 49 cs):∃ a:Act,cs=actC a∧a.Ok:=by
 unfold ArgC at h
 rw [Tryz.underlying49] at h
 obtain ⟨ps,rfl,hps⟩:=h
 cases hps with
 |cons p1 t1 =>
 cases t1 with
 |cons p2 t2 =>
 cases t2 with
 |cons p3 t3 =>
 cases t3 with
 |cons p4 t4 =>
 cases t4 with
 |cons p5 t5 =>
 cases t5 with
 |cons p6 t6 =>
 cases t6 with
 |cons p7 t7 =>
 cases t7 with
 |cons p8 t8 =>
 cases t8
 obtain ⟨kd,rfl,_⟩:=argC_int Tryz.underlying3 p1
 obtain ⟨rd,rfl,_⟩:=argC_int Tryz.underlying3 p2
 obtain ⟨rt,rfl,_⟩:=argC_int Tryz.underlying3 p3
 obtain ⟨pg,rfl,_⟩:=argC_int Tryz.underlying3 p4
 unfold ArgC at p5
 rw [Tryz.underlying42] at p5
 obtain ⟨us,rfl,hus⟩:=p5
 cases hus with
 |cons u1 v1 =>
 cases v1 with
 |cons u2 v2 =>
 cases v2
 obtain ⟨v,rfl,hv⟩:=argC_digest u1
 obtain ⟨nd,rfl,_⟩:=argC_u64 u2
 obtain ⟨t,rfl,ht⟩:=argC_digest p6
 obtain ⟨g,rfl,hg⟩:=argC_granule p7
 obtain ⟨r,rfl,hr⟩:=argC_recp p8
 exact ⟨⟨kd,rd,rt,pg,v,nd,t,g,r⟩,by simp [actC],⟨hv,ht,hg,hr⟩⟩
theorem list_els {α:Type} {k:Nat} {t:TypeId} (enc:α→List AVal) (Ok:α→Prop) (hw:∀ x,wrapA Tryz.prog t (enc x) = .agg (enc x)) (he:∀ cs,ArgC Tryz.prog k t cs→∃ x,cs=enc x∧Ok x) :
  ∀ xs:List (List AVal),(∀ x∈xs,ArgC Tryz.prog k t x)→∃ l:List α,xs.map (wrapA Tryz.prog t)=gls enc l∧l.length=xs.length∧∀ x∈l,Ok x
 |[],_=>⟨[],rfl,rfl,fun _ h=>by cases h⟩
 |x::xs,h=>by
  obtain ⟨l,h1,h2,h3⟩:=list_els enc Ok hw he xs fun y hy=>h y (List.mem_cons_of_mem _ hy)
  obtain ⟨p,rfl,hp⟩:=he _ (h x (List.mem_cons_self ..))
  refine ⟨p::l,?_,by simp [h2],fun c hc=>?_⟩
  ·rw [List.map_cons,h1,hw];rfl
  ·rcases List.mem_cons.1 hc with rfl|hc
   ·exact hp
   ·exact h3 c hc
theorem arg_acts {v:AVal} (h:ArgV Tryz.prog 9 22 v):∃ (l:List Act) (nl:Bool),v = .sl 207 nl (gls actC l) .any∧(∀ a∈l,a.Ok)∧l.length≤9223372036854775807∧(nl=true→l=[]):=by
 obtain ⟨cs,rfl,h⟩:=h
 unfold ArgC at h
 rw [Tryz.underlying22] at h
 obtain ⟨nl,xs,rfl,hn,hl,hx⟩:=h
 obtain ⟨l,h1,h2,h3⟩:=list_els (k:=8) (t:=49) actC Act.Ok (fun x=>by unfold wrapA;rw [Tryz.underlying49]) (fun cs h=>argC_act (k:=3) h) xs hx
 refine ⟨l,nl,?_,h3,by rw [h2];exact hl,fun h=>?_⟩
 ·unfold wrapA
  rw [Tryz.underlying22]
  show AVal.sl (Tryz.prog.cellsOf 49) nl (xs.map (wrapA Tryz.prog 49)) .any=_
  rw [h1,show Tryz.prog.cellsOf 49=207 by kernel_rfl]
 ·have:=hn h
  subst this
  exact List.length_eq_zero_iff.1 h2
theorem trodAll_lengths {H:Type} {enc:TypeId × Value→H} {P:Program} {w:World} {base:Nat} {sp:Nat→Bool} {hd:Bool}:∀ {ts:List TypeId} {vs:List Value} {ds:List (DataW H)} {ps:List MemPlace},DataW.TrodAll enc P w base sp hd ts vs ds ps→ds.length=ts.length
 |[],[],[],_,_=>rfl
 |t::ts,v::vs,d::ds,_,h=>by
  obtain ⟨p,q,_,h2,_⟩:=h
  simp [trodAll_lengths h2]
 |[],[],_::_,_,h=>h.elim
 |_::_,[],_,_,h=>h.elim
 |[],_::_,_,_,h=>h.elim
 |_::_,_::_,[],_,h=>h.elim
def slicesB (P:Program):Bool:=(List.range P.types.size).all fun t=>match P.underlying t with
 |some (.slice e)=>Nat.blt 0 (P.cellsOf e)
 |_=>true
theorem slicesB_ok {P:Program} (h:slicesB P=true) {t e:TypeId} (ht:t<P.types.size) (he:P.underlying t=some (.slice e)):0<P.cellsOf e:=by
 have:=List.all_eq_true.1 h t (List.mem_range.2 ht)
 rw [he] at this
 exact blt_iff.1 this
end Go.Am
namespace Go.Proofs.YteemcehaekffeaaGreat
theorem own:ownKnob Tryz.prog.godebug=none:=by kernel_rfl
theorem laidOut:laidOutB Tryz.prog=true:=by kernel_rfl
theorem rowed:mapsRowed Tryz.prog=true:=by kernel_rfl
theorem sliced:Go.Am.slicesB Tryz.prog=true:=by kernel_rfl
end Go.Proofs.YteemcehaekffeaaGreat
