/- Arguments of the chapter's laws; the program's variables that are known. -/
import Derived.Test.YtodiaabcaahnjaaGreatDoorAmFreshG
import Derived.Test.YtodiaabcaahnjaaGreatDoorAmShelf
import Derived.Test.YtodiaabcaahnjaaGreatDoorRows
import Derived.Test.YtodiaabcaahnjaaGreatDoorTie
import Derived.Test.YtodiaabcaahnjaaGreatDoorCards
import Derived.ProofKit
import Derived.LaidMore
import Derived.Lay
import Derived.OpenShut
import Derived.Stop.Joined
import Derived.SevenTiedAt
set_option linter.unusedVariables false
set_option linter.unusedSimpArgs false
namespace Go.Am
open Go Go.Proofs Go.Proofs.YtodiaabcaahnjaaGreatDoor
set_option maxRecDepth 100000
theorem trodAll_lengths {H:Type} {enc:TypeId × Value→H} {P:Program} {w:World} {base:Nat} {sp:Nat→Bool} {hd:Bool}:∀ {ts:List TypeId} {vs:List Value} {ds:List (DataW H)} {ps:List MemPlace},DataW.TrodAll enc P w base sp hd ts vs ds ps→ds.length=ts.length
 |[],[],[],_,_=>rfl
 |t::ts,v::vs,d::ds,_,h=>by
  obtain ⟨p,q,_,h2,_⟩:=h
  simp [trodAll_lengths h2]
 |[],[],_::_,_,h=>h.elim
 |_::_,[],_,_,h=>h.elim
 |[],_::_,_,_,h=>h.elim
 |_::_,_::_,[],_,h=>h.elim
def slicesB (P:Program):Bool:=(List.range P.types.size).all fun t=>match P.underlying t with
 |some (.slice e)=>Nat.blt 0 (P.cellsOf e)
 |_=>true
theorem slicesB_ok {P:Program} (h:slicesB P=true) {t e:TypeId} (ht:t<P.types.size) (he:P.underlying t=some (.slice e)):0<P.cellsOf e:=by
 have:=List.all_eq_true.1 h t (List.mem_range.2 ht)
 rw [he] at this
 exact blt_iff.1 this
theorem gl_listed {P:Program} {n nm:String} {d:DataW Unit} {r:List (String × DataW Unit)} {W:World} {g:Nat} {ti:TypeId} {ms:Array (String × TypeId)} (h:laidMet P ((n,.iface nm d)::r) W)
  (hg:P.globalNamed n=some g) (ht:(P.globals[g]?).map (·.type)=some ti) (hi:P.underlying ti=some (.interface ms)):GL (env0 W fun _ _=>True) g .any:=by
 obtain ⟨ps,⟨g0,t0,cs0,f0,p0,q0,hg0,ht0,hv0,hd0,_,_⟩,_⟩:=h
 obtain rfl:=Option.some.inj (hg.symm.trans hg0)
 obtain rfl:=Option.some.inj (ht.symm.trans ht0)
 obtain ⟨l0⟩:=cs0
 obtain ⟨_,u,v,hc,_⟩:=iface_of_trod hi hd0
 have hc:l0=[.iface u v]:=hc
 subst hc
 exact gl_var hg hv0 (.inr ⟨u,v,rfl⟩)
def laidL:List (String × DataW Unit):=Rows.scriptUnlinesRow.laid
theorem cx_glob {W:World} (hL:laidMet Tryz.prog laidL W) (hs:W.ShapedOpen Tryz.prog):∀ g v,cx.G g=some v→GL (env0 W fun _ _=>True) g v:=by
 have hL1:laidMet Tryz.prog [("math/bits.deBruijn32tab", Rows.laid_math_bits_deBruijn32tab),("math/bits.deBruijn64tab", Rows.laid_math_bits_deBruijn64tab),("internal/strconv.uint64pow10", Rows.laid_internal_strconv_uint64pow10),("unicode/utf8.acceptRanges", Rows.laid_unicode_utf8_acceptRanges),("strconv.ErrRange", Rows.laid_strconv_ErrRange),("strconv.ErrSyntax", Rows.laid_strconv_ErrSyntax),("unicode/utf8.first", Rows.laid_unicode_utf8_first)] W:=hL
 have l3:=laidMet.tail (laidMet.tail hL1)
 have e3:(Rows.laid_internal_strconv_uint64pow10:DataW Unit)=Lib.tabData .u64 Lib.pow10Tab:=by kernel_rfl
 have l3':=l3
 rw [e3] at l3'
 have h0:=Lib.tabIs_of_head (g:=3) (t:=192) (e:=25) (n:=20) (by kernel_rfl) (by kernel_rfl) (by kernel_rfl) (by kernel_rfl) (by kernel_rfl) (by kernel_rfl) l3'
 have g0:=gl_tab (P:=Tryz.prog) (g:=3) (by kernel_rfl) h0
 have g1:=gl_int_shaped (P:=Tryz.prog) (g:=0) (zero := #[.int .i64 0]) (t:=3) hs (of_decide_eq_true (by kernel_rfl)) (by kernel_rfl) rfl (by kernel_rfl) (by kernel_rfl) (by kernel_rfl)
 have l5:=laidMet.tail (laidMet.tail l3)
 have g3:=gl_listed (P:=Tryz.prog) (g:=2) (ti:=105) l5 (by kernel_rfl) (by kernel_rfl) Tryz.underlying105
 have g2:=gl_listed (P:=Tryz.prog) (g:=1) (ti:=105) (laidMet.tail l5) (by kernel_rfl) (by kernel_rfl) Tryz.underlying105
 intro g v h
 have h:gT g=some v:=h
 unfold gT at h
 rcases cond_some h with ⟨c,h⟩|⟨_,h⟩
 ·obtain rfl:=nbeq c
  injection h with h;subst h;first|exact g0|exact g1|exact g2|exact g3
 rcases cond_some h with ⟨c,h⟩|⟨_,h⟩
 ·obtain rfl:=nbeq c
  injection h with h;subst h;first|exact g0|exact g1|exact g2|exact g3
 rcases cond_some h with ⟨c,h⟩|⟨_,h⟩
 ·obtain rfl:=nbeq c
  injection h with h;subst h;first|exact g0|exact g1|exact g2|exact g3
 rcases cond_some h with ⟨c,h⟩|⟨_,h⟩
 ·obtain rfl:=nbeq c
  injection h with h;subst h;first|exact g0|exact g1|exact g2|exact g3
 cases h
end Go.Am
namespace Go.Proofs.YtodiaabcaahnjaaGreatDoor
open Go.ChangeShapes Go.WideShapes Go.ChangeAt Go.RowKit
theorem own:ownKnob Tryz.prog.godebug=none:=by kernel_rfl
theorem laidOut:laidOutB Tryz.prog=true:=by kernel_rfl
theorem rowed:mapsRowed Tryz.prog=true:=by kernel_rfl
theorem sliced:Go.Am.slicesB Tryz.prog=true:=by kernel_rfl
end Go.Proofs.YtodiaabcaahnjaaGreatDoor
