/- Arguments of the chapter's laws; the program's variables that are known. -/
import Derived.Test.YtodiaabcaahnjaaGreatDoorAmFreshG
import Derived.Test.YtodiaabcaahnjaaGreatDoorAmShelf
import Derived.Test.YtodiaabcaahnjaaGreatDoorRows
import Derived.Test.YtodiaabcaahnjaaGreatDoorTie
import Derived.Test.YtodiaabcaahnjaaGreatDoorCards
import Derived.ProofKit
import Derived.LaidMore
import Derived.Lay
import Derived.OpenShut
import Derived.Stop.Joined
import Derived.SevenTiedAt
import Derived.Test.YtodiaabcaahnjaaGreatDoorS23
set_option linter.unusedVariables false
set_option linter.unusedSimpArgs false
section
namespace Go.Am
open Go Go.Proofs Go.Proofs.YtodiaabcaahnjaaGreatDoor
set_option maxRecDepth 100000
theorem argC_int {P:Program} {k:Nat} {t:TypeId} {q:IntKind} {cs:List AVal} (hu:P.underlying t=some (.int q)) (h:ArgC P k t cs):∃ n:Int,cs=[.int q n]∧q.min≤n∧n≤q.max:=by
 cases k with
 |zero=>exact h.elim
 |succ k =>
  unfold ArgC at h
  rw [hu] at h
  obtain ⟨n,rfl,hw⟩:=h
  refine ⟨n,rfl,?_⟩
  simpa [Lit.wf] using hw
theorem flat_words (ps:List (List AVal)) (h:∀ p∈ps,∃ n:Int,p=[.int .u64 n]∧IntKind.u64.min≤n∧n≤IntKind.u64.max) :
  ∃ L:List Nat,L.length=ps.length∧ps.flatten=wl L∧∀ n∈L,n<18446744073709551616:=by
 induction ps with
 |nil=>exact ⟨[],rfl,rfl,fun _ h=>by cases h⟩
 |cons p ps ih =>
  obtain ⟨n,rfl,hn0,hn1⟩:=h p (List.mem_cons_self ..)
  have hn0:0≤n:=hn0
  have hn1:n≤18446744073709551615:=hn1
  obtain ⟨w,rfl⟩:=Int.eq_ofNat_of_zero_le hn0
  obtain ⟨L,h1,h2,h3⟩:=ih fun q hq=>h q (List.mem_cons_of_mem _ hq)
  refine ⟨w::L,by simp [h1],?_,fun m hm=>?_⟩
  ·rw [List.flatten_cons,h2];rfl
  ·rcases List.mem_cons.1 hm with rfl|hm
   ·omega
   ·exact h3 m hm
theorem argC_call {k:Nat} {cs:List AVal} (h:ArgC Tryz.prog (k+3) 28 cs):∃ (op:Int) (xs:List Nat),cs = .int .i64 op::wl xs∧xs.length=6∧(∀ x∈xs,x<18446744073709551616) ∧ -9223372036854775808≤op∧op≤9223372036854775807:=by
 unfold ArgC at h
 rw [Tryz.underlying28] at h
 obtain ⟨ps,rfl,hps⟩:=h
 cases hps with
 |cons p1 t1 =>
 cases t1 with
 |cons p2 t2 =>
 cases t2
 obtain ⟨n1,rfl,h1⟩:=argC_int Tryz.underlying24 p1
 unfold ArgC at p2
 rw [Tryz.underlying26] at p2
 obtain ⟨qs,rfl,hl,hq⟩:=p2
 obtain ⟨L,hL,hf,hr⟩:=flat_words qs (fun p hp=>argC_int Tryz.underlying25 (hq p hp))
 exact ⟨n1,L,by simp [hf],by omega,hr,h1⟩
theorem arg_str {v:AVal} (h:ArgV Tryz.prog 9 9 v):∃ s:List UInt8,v = .str s∧s.length≤9223372036854775807:=by
 obtain ⟨cs,rfl,hc⟩:=h
 unfold ArgC at hc
 rw [Tryz.underlying9] at hc
 obtain ⟨s,rfl,hs⟩:=hc
 refine ⟨s,?_,hs⟩
 unfold wrapA
 rw [Tryz.underlying9]
 rfl
theorem list_bytes {k:Nat}:∀ xs:List (List AVal),(∀ x∈xs,ArgC Tryz.prog (k+1) 5 x)→∃ l:List UInt8,xs.map (wrapA Tryz.prog 5)=bl l∧l.length=xs.length
 |[],_=>⟨[],rfl,rfl⟩
 |x::xs,h=>by
  obtain ⟨l,h1,h2⟩:=list_bytes xs fun y hy=>h y (List.mem_cons_of_mem _ hy)
  obtain ⟨n,rfl,hn0,hn1⟩:=argC_int Tryz.underlying5 (h x (List.mem_cons_self ..))
  have hn0:0≤n:=hn0
  have hn1:n≤255:=hn1
  obtain ⟨w,rfl⟩:=Int.eq_ofNat_of_zero_le hn0
  refine ⟨UInt8.ofNat w::l,?_,by simp [h2]⟩
  rw [List.map_cons,h1]
  unfold wrapA
  rw [Tryz.underlying5]
  show AVal.int .u8 (w:Int)::bl l=bl (UInt8.ofNat w::l)
  have e:(UInt8.ofNat w).toNat=w:=by simp [UInt8.toNat_ofNat'];omega
  simp [bl,bv,e]
theorem trodAll_lengths {H:Type} {enc:TypeId × Value→H} {P:Program} {w:World} {base:Nat} {sp:Nat→Bool} {hd:Bool}:∀ {ts:List TypeId} {vs:List Value} {ds:List (DataW H)} {ps:List MemPlace},DataW.TrodAll enc P w base sp hd ts vs ds ps→ds.length=ts.length
 |[],[],[],_,_=>rfl
 |t::ts,v::vs,d::ds,_,h=>by
  obtain ⟨p,q,_,h2,_⟩:=h
  simp [trodAll_lengths h2]
 |[],[],_::_,_,h=>h.elim
 |_::_,[],_,_,h=>h.elim
 |[],_::_,_,_,h=>h.elim
 |_::_,_::_,[],_,h=>h.elim
def slicesB (P:Program):Bool:=(List.range P.types.size).all fun t=>match P.underlying t with
 |some (.slice e)=>Nat.blt 0 (P.cellsOf e)
 |_=>true
theorem slicesB_ok {P:Program} (h:slicesB P=true) {t e:TypeId} (ht:t<P.types.size) (he:P.underlying t=some (.slice e)):0<P.cellsOf e:=by
 have:=List.all_eq_true.1 h t (List.mem_range.2 ht)
 rw [he] at this
 exact blt_iff.1 this
theorem gl_listed {P:Program} {n nm:String} {d:DataW Unit} {r:List (String × DataW Unit)} {W:World} {g:Nat} {ti:TypeId} {ms:Array (String × TypeId)} (h:laidMet P ((n,.iface nm d)::r) W)
  (hg:P.globalNamed n=some g) (ht:(P.globals[g]?).map (·.type)=some ti) (hi:P.underlying ti=some (.interface ms)):GL (env0 W fun _ _=>True) g .any:=by
 obtain ⟨ps,⟨g0,t0,cs0,f0,p0,q0,hg0,ht0,hv0,hd0,_,_⟩,_⟩:=h
 obtain rfl:=Option.some.inj (hg.symm.trans hg0)
 obtain rfl:=Option.some.inj (ht.symm.trans ht0)
 obtain ⟨l0⟩:=cs0
 obtain ⟨_,u,v,hc,_⟩:=iface_of_trod hi hd0
 have hc:l0=[.iface u v]:=hc
 subst hc
 exact gl_var hg hv0 (.inr ⟨u,v,rfl⟩)
def laidL:List (String × DataW Unit):=Rows.scriptUnlinesRow.laid
theorem cx_glob {W:World} (hL:laidMet Tryz.prog laidL W) (hs:W.ShapedOpen Tryz.prog):∀ g v,cx.G g=some v→GL (env0 W fun _ _=>True) g v:=by
 have hL1:laidMet Tryz.prog [("math/bits.deBruijn32tab", Rows.laid_math_bits_deBruijn32tab),("math/bits.deBruijn64tab", Rows.laid_math_bits_deBruijn64tab),("internal/strconv.uint64pow10", Rows.laid_internal_strconv_uint64pow10),("unicode/utf8.acceptRanges", Rows.laid_unicode_utf8_acceptRanges),("strconv.ErrRange", Rows.laid_strconv_ErrRange),("strconv.ErrSyntax", Rows.laid_strconv_ErrSyntax),("unicode/utf8.first", Rows.laid_unicode_utf8_first)] W:=hL
 have l3:=laidMet.tail (laidMet.tail hL1)
 have e3:(Rows.laid_internal_strconv_uint64pow10:DataW Unit)=Lib.tabData .u64 Lib.pow10Tab:=by kernel_rfl
 have l3':=l3
 rw [e3] at l3'
 have h0:=Lib.tabIs_of_head (g:=3) (t:=192) (e:=25) (n:=20) (by kernel_rfl) (by kernel_rfl) (by kernel_rfl) (by kernel_rfl) (by kernel_rfl) (by kernel_rfl) l3'
 have g0:=gl_tab (P:=Tryz.prog) (g:=3) (by kernel_rfl) h0
 have g1:=gl_int_shaped (P:=Tryz.prog) (g:=0) (zero := #[.int .i64 0]) (t:=3) hs (of_decide_eq_true (by kernel_rfl)) (by kernel_rfl) rfl (by kernel_rfl) (by kernel_rfl) (by kernel_rfl)
 have l5:=laidMet.tail (laidMet.tail l3)
 have g3:=gl_listed (P:=Tryz.prog) (g:=2) (ti:=105) l5 (by kernel_rfl) (by kernel_rfl) Tryz.underlying105
 have g2:=gl_listed (P:=Tryz.prog) (g:=1) (ti:=105) (laidMet.tail l5) (by kernel_rfl) (by kernel_rfl) Tryz.underlying105
 intro g v h
 have h:gT g=some v:=h
 unfold gT at h
 rcases cond_some h with ⟨c,h⟩|⟨_,h⟩
 ·obtain rfl:=nbeq c
  injection h with h;subst h;first|exact g0|exact g1|exact g2|exact g3
 rcases cond_some h with ⟨c,h⟩|⟨_,h⟩
 ·obtain rfl:=nbeq c
  injection h with h;subst h;first|exact g0|exact g1|exact g2|exact g3
 rcases cond_some h with ⟨c,h⟩|⟨_,h⟩
 ·obtain rfl:=nbeq c
  injection h with h;subst h;first|exact g0|exact g1|exact g2|exact g3
 rcases cond_some h with ⟨c,h⟩|⟨_,h⟩
 ·obtain rfl:=nbeq c
  injection h with h;subst h;first|exact g0|exact g1|exact g2|exact g3
 cases h
end Go.Am
namespace Go.Proofs.YtodiaabcaahnjaaGreatDoor
open Go.ChangeShapes Go.WideShapes Go.ChangeAt Go.RowKit
theorem own:ownKnob Tryz.prog.godebug=none:=by kernel_rfl
theorem laidOut:laidOutB Tryz.prog=true:=by kernel_rfl
theorem rowed:mapsRowed Tryz.prog=true:=by kernel_rfl
theorem sliced:Go.Am.slicesB Tryz.prog=true:=by kernel_rfl
end Go.Proofs.YtodiaabcaahnjaaGreatDoor
end
section
namespace Go.Am
open Go Go.Proofs
set_option maxRecDepth 100000
theorem argC_u64 {k:Nat} {cs:List AVal} (h:ArgC Tryz.prog k 25 cs):∃ n:Nat,cs=[.int .u64 (n:Int)]∧n<18446744073709551616:=by
 obtain ⟨n,rfl,hn0,hn1⟩:=argC_int Tryz.underlying25 h
 have hn0:0≤n:=hn0
 have hn1:n≤18446744073709551615:=hn1
 obtain ⟨w,rfl⟩:=Int.eq_ofNat_of_zero_le hn0
 exact ⟨w,rfl,by omega⟩
theorem argC_bool {k:Nat} {cs:List AVal} (h:ArgC Tryz.prog (k+1) 4 cs):∃ b:Bool,cs=[.bool b]:=by
 unfold ArgC at h
 rw [Tryz.underlying4] at h
 exact h
theorem argC_bytes {k:Nat} {cs:List AVal} (h:ArgC Tryz.prog (k+2) 29 cs):∃ (nl:Bool) (l:List UInt8),cs=[.sl 1 nl (bl l) .any]∧l.length≤9223372036854775807:=by
 unfold ArgC at h
 rw [Tryz.underlying29] at h
 obtain ⟨nl,xs,rfl,hn,hl,hx⟩:=h
 obtain ⟨l,h1,h2⟩:=list_bytes xs hx
 refine ⟨nl,l,?_,by rw [h2];exact hl⟩
 rw [h1,show Tryz.prog.cellsOf 5=1 by kernel_rfl]
theorem flat_bytes (ps:List (List AVal)) (h:∀ p∈ps,∃ n:Int,p=[.int .u8 n]∧IntKind.u8.min≤n∧n≤IntKind.u8.max) :
  ∃ L:List UInt8,L.length=ps.length∧ps.flatten=bl L:=by
 induction ps with
 |nil=>exact ⟨[],rfl,rfl⟩
 |cons p ps ih =>
  obtain ⟨n,rfl,hn0,hn1⟩:=h p (List.mem_cons_self ..)
  have hn0:0≤n:=hn0
  have hn1:n≤255:=hn1
  obtain ⟨w,rfl⟩:=Int.eq_ofNat_of_zero_le hn0
  obtain ⟨L,h1,h2⟩:=ih fun q hq=>h q (List.mem_cons_of_mem _ hq)
  have e:(UInt8.ofNat w).toNat=w:=by simp [UInt8.toNat_ofNat'];omega
  refine ⟨UInt8.ofNat w::L,by simp [h1],?_⟩
  rw [List.flatten_cons,h2]
  simp [bl,bv,e]
theorem argC_digest {k:Nat} {cs:List AVal} (h:ArgC Tryz.prog (k+2) 41 cs):∃ L:List UInt8,cs=bl L∧L.length=32:=by
 unfold ArgC at h
 rw [Tryz.underlying41] at h
 obtain ⟨qs,rfl,hl,hq⟩:=h
 obtain ⟨L,hL,hf⟩:=flat_bytes qs (fun p hp=>argC_int Tryz.underlying5 (hq p hp))
 exact ⟨L,hf,by omega⟩
theorem list_dgs {k:Nat}:∀ xs:List (List AVal),(∀ x∈xs,ArgC Tryz.prog (k+2) 41 x)→∃ l:List (List UInt8),xs.map (wrapA Tryz.prog 41)=dgs l∧l.length=xs.length∧∀ x∈l,x.length=32
 |[],_=>⟨[],rfl,rfl,fun _ h=>by cases h⟩
 |x::xs,h=>by
  obtain ⟨l,h1,h2,h3⟩:=list_dgs xs fun y hy=>h y (List.mem_cons_of_mem _ hy)
  obtain ⟨L,rfl,hL⟩:=argC_digest (h x (List.mem_cons_self ..))
  refine ⟨L::l,?_,by simp [h2],fun c hc=>?_⟩
  ·rw [List.map_cons,h1]
   unfold wrapA
   rw [Tryz.underlying41]
   rfl
  ·rcases List.mem_cons.1 hc with rfl|hc
   ·exact hL
   ·exact h3 c hc
theorem list_words {k:Nat}:∀ xs:List (List AVal),(∀ x∈xs,ArgC Tryz.prog (k+1) 25 x)→∃ l:List Nat,xs.map (wrapA Tryz.prog 25)=wl l∧l.length=xs.length∧∀ x∈l,x<18446744073709551616
 |[],_=>⟨[],rfl,rfl,fun _ h=>by cases h⟩
 |x::xs,h=>by
  obtain ⟨l,h1,h2,h3⟩:=list_words xs fun y hy=>h y (List.mem_cons_of_mem _ hy)
  obtain ⟨n,rfl,hn⟩:=argC_u64 (h x (List.mem_cons_self ..))
  refine ⟨n::l,?_,by simp [h2],fun c hc=>?_⟩
  ·rw [List.map_cons,h1]
   unfold wrapA
   rw [Tryz.underlying25]
   rfl
  ·rcases List.mem_cons.1 hc with rfl|hc
   ·exact hn
   ·exact h3 c hc
theorem argC_step {k:Nat} {cs:List AVal} (h:ArgC Tryz.prog (k+4) 31 cs):∃ (s:Sp) (nl:Bool),cs=spC s nl .any∧s.Wd:=by
 unfold ArgC at h
 rw [Tryz.underlying31] at h
 obtain ⟨ps,rfl,hps⟩:=h
 cases hps with
 |cons p1 t1 =>
 cases t1 with
 |cons p2 t2 =>
 cases t2 with
 |cons p3 t3 =>
 cases t3 with
 |cons p4 t4 =>
 cases t4 with
 |cons p5 t5 =>
 cases t5
 obtain ⟨n1,rfl,_⟩:=argC_int Tryz.underlying23 p1
 obtain ⟨op,xs,rfl,hx,hw,_⟩:=argC_call p2
 obtain ⟨a,rfl,ha⟩:=argC_u64 p3
 obtain ⟨w,rfl,hw2⟩:=argC_u64 p4
 obtain ⟨nl,b,rfl,_⟩:=argC_bytes p5
 exact ⟨⟨n1,op,xs,a,w,b⟩,nl,by simp [spC],⟨hx,hw,ha,hw2⟩⟩
theorem list_steps {k:Nat}:∀ xs:List (List AVal),(∀ x∈xs,ArgC Tryz.prog (k+4) 31 x)→∃ l:List (Sp × Bool),xs.map (wrapA Tryz.prog 31)=sts l∧l.length=xs.length∧∀ p∈l,p.1.Wd
 |[],_=>⟨[],rfl,rfl,fun _ h=>by cases h⟩
 |x::xs,h=>by
  obtain ⟨l,h1,h2,h3⟩:=list_steps xs fun y hy=>h y (List.mem_cons_of_mem _ hy)
  obtain ⟨s,nl,rfl,hs⟩:=argC_step (h x (List.mem_cons_self ..))
  refine ⟨(s,nl)::l,?_,by simp [h2],fun c hc=>?_⟩
  ·rw [List.map_cons,h1]
   unfold wrapA
   rw [Tryz.underlying31]
   rfl
  ·rcases List.mem_cons.1 hc with rfl|hc
   ·exact hs
   ·exact h3 c hc
theorem argC_setup {k:Nat} {cs:List AVal} (h:ArgC Tryz.prog (k+4) 45 cs):∃ (s:Su) (nd ne:Bool),cs=suC s nd ne∧s.Ok∧s.d.length≤9223372036854775807∧s.e.length≤9223372036854775807:=by
 unfold ArgC at h
 rw [Tryz.underlying45] at h
 obtain ⟨ps,rfl,hps⟩:=h
 cases hps with
 |cons p1 t1 =>
 cases t1 with
 |cons p2 t2 =>
 cases t2 with
 |cons p3 t3 =>
 cases t3 with
 |cons p4 t4 =>
 cases t4 with
 |cons p5 t5 =>
 cases t5
 obtain ⟨g,rfl,_⟩:=argC_int Tryz.underlying3 p1
 obtain ⟨i,rfl⟩:=argC_bool p2
 obtain ⟨m,rfl,hm⟩:=argC_digest p3
 unfold ArgC at p4 p5
 rw [Tryz.underlying42] at p4
 rw [Tryz.underlying43] at p5
 obtain ⟨nd,xd,rfl,_,hdl,hd⟩:=p4
 obtain ⟨ne,xe,rfl,_,hel,he⟩:=p5
 obtain ⟨d,d1,d2,d3⟩:=list_dgs xd hd
 obtain ⟨e,e1,e2,e3⟩:=list_words xe he
 refine ⟨⟨g,i,m,d,e⟩,nd,ne,?_,⟨hm,d3,e3⟩,by rw [d2];exact hdl,by rw [e2];exact hel⟩
 rw [d1,e1,show Tryz.prog.cellsOf 41=32 by kernel_rfl,show Tryz.prog.cellsOf 25=1 by kernel_rfl]
 simp [suC]
theorem arg_script {v:AVal} (h:ArgV Tryz.prog 9 48 v):∃ (s:Su) (nd ne ns:Bool) (l:List (Sp × Bool)),v = .agg (scC s nd ne l ns)∧ScW s l:=by
 obtain ⟨cs,rfl,h⟩:=h
 unfold ArgC at h
 rw [Tryz.underlying48] at h
 obtain ⟨ps,rfl,hps⟩:=h
 cases hps with
 |cons p1 t1 =>
 cases t1 with
 |cons p2 t2 =>
 cases t2
 obtain ⟨s,nd,ne,rfl,hs,h1,h2⟩:=argC_setup p1
 unfold ArgC at p2
 rw [Tryz.underlying46] at p2
 obtain ⟨ns,xs,rfl,_,hl,hx⟩:=p2
 obtain ⟨l,l1,l2,l3⟩:=list_steps xs hx
 refine ⟨s,nd,ne,ns,l,?_,⟨hs,l3,h1,h2,by rw [l2];exact hl⟩⟩
 rw [l1,show Tryz.prog.cellsOf 31=11 by kernel_rfl]
 unfold wrapA
 rw [Tryz.underlying48]
 simp [scC,suC]
end Go.Am
end
