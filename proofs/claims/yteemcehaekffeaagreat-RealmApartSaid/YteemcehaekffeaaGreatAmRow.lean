/- The abstract layer: from a pure contract to a row's own wording. -/
import Derived.Test.YteemcehaekffeaaGreatAmExec4
import Derived.ProofKit
import Derived.OpenShut
import Derived.ChangeArms
import Derived.ChangeStays
import Derived.ChangeBears
set_option linter.unusedVariables false
set_option linter.unusedSimpArgs false
section
namespace Go.Am
open Go Go.ChangeShapes Go.WideShapes Go.ChangeAt Go.RowKit
noncomputable section
theorem wf0 {G:Nat→Option AVal} (hG:∀ g v,G g=some v→False) (w:World) (im0:Nat→Nat→Prop):Wf G (env0 w im0) :=
 ⟨rfl,fun i j b h=>by simp [env0] at h,fun i b h=>by simp [env0] at h,Nat.le_refl _,fun b o _ _ i=>by simp [env0],fun i x h=>by simp [env0] at h,
  fun g v h=>(hG g v h).elim⟩
theorem keptBut_grown {w w':World} (h:w.grownBy w' none) (may:MemPlace→Prop):w.keptBut w' may:=by
 have hk:=World.keptBut_refl w may
 refine ⟨h.os,h.output,fun i hi=>?_⟩
 rw [h.block i hi (by simp)]
 exact hk.2.2 i hi
theorem frozen_grown {w w':World} (h:w.grownBy w' none) {a:Addr} (ha:a.block<w.heap.size):w'.frozen? a=w.frozen? a :=
 World.frozen?_of_block (h.block _ ha (by simp))
theorem post_grown {H:Type} {enc:TypeId × Value→H} {P:Program} {f:Func} {s:ChangeSpec} {apart fresh handsOn again:Bool} {W W':World} {args:Array Value} {v:Value} {ds gs:List (DataW H)} {before pa pv:List MemPlace}
  (hW:DataW.Whole enc P f.params.toList s.vars apart W args.toList ds gs before) (hg:W.grownBy W' none)
  (hres:∀ (b:Nat) (sp:Nat→Bool) (hd:Bool),DataW.TrodAll enc P W' b sp hd f.resultTypes.toList (v.resultList f.resultTypes.size) (s.fn H (ds++gs)).results [])
  (hargs:∀ sp:Nat→Bool,(∀ p∈before,sp p.block=true)→DataW.TrodAll enc P W' 0 sp true f.params.toList args.toList (s.fn H (ds++gs)).args pa)
  (hvars:∀ sp:Nat→Bool,(∀ p∈before,sp p.block=true)→DataW.TrodVars enc P W' sp s.vars (s.fn H (ds++gs)).vars pv)
  (hps:before=pa++pv)
  (hok:∀ (j:Nat) (t:TypeId) (r:Value),f.resultTypes[j]? = some t→(v.resultList f.resultTypes.size)[j]? = some r→Value.okWide P W' .any 0 t r) :
  s.post enc P f apart fresh handsOn again W args v W':=by
 have hold:∀ p∈before,(fun b=>decide (b<W.heap.size)) p.block=true:=fun p hp=>by simpa using hW.lt p hp
 have hlt:=hW.lt
 refine ⟨ds,gs,before,[],pa,pv,hW,hres _ _ _,hargs _ hold,hvars _ hold,World.keptBut_mono (fun p hp=>hp.elim) (keptBut_grown hg fun _=>False),fun _=>?_⟩
 obtain ⟨_,_,_,_,_,hz,hn⟩:=hW
 refine ⟨hok,_,_,([]++pa)++pv,⟨[]++pa,pv,trodAll_append (hargs _ (fun _ _=>rfl)) (hres _ _ _),hvars _ (fun _ _=>rfl),rfl,?_,?_⟩,?_⟩
 ·intro b off hp
  have hp':MemPlace.cell b off∈before:=by rw [hps];simpa using hp
  rw [frozen_grown hg (hlt _ hp')]
  exact hz b off hp'
 ·intro ha
  have:=hn ha
  rw [hps] at this
  simpa using this
 ·intro p hp _
  rw [hps]
  simpa using hp
end
end Go.Am
end
section
namespace Go.Am
open Go
inductive All2 {α β:Type} (r:α→β→Prop):List α→List β→Prop
 |nil:All2 r [] []
 |cons {a:α} {b:β} {as:List α} {bs:List β} (h:r a b) (t:All2 r as bs):All2 r (a::as) (b::bs)
theorem All2.length {α β:Type} {r:α→β→Prop} {as:List α} {bs:List β} (h:All2 r as bs):as.length=bs.length:=by
 induction h with
 |nil=>rfl
 |cons _ _ ih=>simp [ih]
theorem All2.append {α β:Type} {r:α→β→Prop} {as as':List α} {bs bs':List β} (h:All2 r as bs) (k:All2 r as' bs'):All2 r (as++as') (bs++bs'):=by
 induction h with
 |nil=>exact k
 |cons h _ ih=>exact .cons h ih
theorem All2.flatten {α β:Type} {r:α→β→Prop} {as:List (List α)} {bs:List (List β)} (h:All2 (All2 r) as bs):All2 r as.flatten bs.flatten:=by
 induction h with
 |nil=>exact .nil
 |cons h _ ih=>exact h.append ih
theorem All2.mono {α β:Type} {r s:α→β→Prop} (hrs:∀ a b,r a b→s a b) {as:List α} {bs:List β} (h:All2 r as bs):All2 s as bs:=by
 induction h with
 |nil=>exact .nil
 |cons h _ ih=>exact .cons (hrs _ _ h) ih
theorem All2.get {α β:Type} {r:α→β→Prop} {as:List α} {bs:List β} (h:All2 r as bs):∀ (j:Nat) (h1:j<as.length) (h2:j<bs.length),r as[j] bs[j]:=by
 induction h with
 |nil=>intro j h1;exact absurd h1 (Nat.not_lt_zero _)
 |cons h _ ih =>
  intro j h1 h2
  cases j with
  |zero=>exact h
  |succ j=>exact ih j (by simpa using h1) (by simpa using h2)
theorem All2.mem_right {α β:Type} {r:α→β→Prop} {as:List α} {bs:List β} (h:All2 r as bs):∀ b∈bs,∃ a∈as,r a b:=by
 induction h with
 |nil=>intro b hb;cases hb
 |cons h _ ih =>
  intro b hb
  rcases List.mem_cons.1 hb with rfl|hb
  ·exact ⟨_,List.mem_cons_self ..,h⟩
  ·obtain ⟨a,ha,hr⟩:=ih b hb
   exact ⟨a,List.mem_cons_of_mem _ ha,hr⟩
def plainT (P:Program):Nat→TypeId→Bool
 |0,_=>false
 |k+1,t=>decide (t<P.types.size)&&match P.underlying t with
  |some .bool=>P.cellsOf t==1
  |some (.int _)=>P.cellsOf t==1
  |some .string=>P.cellsOf t==1
  |some (.slice e)=>P.cellsOf t==1&&plainT P k e
  |some (.struct fs)=>fs.toList.all fun f=>plainT P k f.type
  |some (.array _ e)=>plainT P k e
  |_=>false
def wrapA (P:Program) (t:TypeId) (cs:List AVal):AVal :=
 match P.underlying t with
 |some (.struct _)=>.agg cs
 |some (.array _ _)=>.agg cs
 |_=>cs.headD .any
def ArgC (P:Program):Nat→TypeId→List AVal→Prop
 |0,_,_=>False
 |k+1,t,cs=>match P.underlying t with
  |some .bool=>∃ b,cs=[.bool b]
  |some (.int q)=>∃ n,cs=[.int q n]∧(Lit.int q n).wf=true
  |some .string=>∃ s:List UInt8,cs=[.str s]∧s.length≤maxLen
  |some (.slice e)=>∃ (nl:Bool) (xs:List (List AVal)),cs=[.sl (P.cellsOf e) nl (xs.map (wrapA P e)) .any]∧(nl=true→xs=[])∧xs.length≤maxLen∧∀ x∈xs,ArgC P k e x
  |some (.struct fs)=>∃ ps:List (List AVal),cs=ps.flatten∧All2 (fun (f:Field) p=>ArgC P k f.type p) fs.toList ps
  |some (.array n e)=>∃ ps:List (List AVal),cs=ps.flatten∧ps.length=n∧∀ p∈ps,ArgC P k e p
  |_=>False
def CR (E:Env) (a:AVal) (v:Value):Prop:=R E a v∧v.oneCell'=true∧a.cells=[a]
theorem cut_row {α β:Type} {c:α→Nat} {Q:α→List β→Prop}:∀ (fs:List α) (cs:List β),cs.length=(fs.map c).sum →
  (∀ (j:Nat) f,fs[j]? = some f→Q f ((cs.drop ((fs.take j).map c).sum).take (c f)))→∃ qs:List (List β),cs=qs.flatten∧All2 Q fs qs
 |[],cs,hl,_=>⟨[],by cases cs with|nil=>rfl|cons a as=>simp at hl,.nil⟩
 |f::fs,cs,hl,h=>by
  have hl':cs.length=c f+(fs.map c).sum:=by simpa using hl
  obtain ⟨qs,h1,h2⟩:=cut_row (c:=c) (Q:=Q) fs (cs.drop (c f)) (by simp;omega) (fun j g hg=>by
   have:=h (j+1) g (by simpa using hg)
   simpa [List.drop_drop,Nat.add_comm] using this)
  refine ⟨cs.take (c f)::qs,?_,.cons (by simpa using h 0 f rfl) h2⟩
  rw [List.flatten_cons,← h1,List.take_append_drop]
theorem all2_choice {α β γ:Type} {Q:α→β→Prop} {S:α→γ→Prop} {r:γ→β→Prop} (h:∀ a b,Q a b→∃ g,S a g∧r g b):∀ {as:List α} {bs:List β},All2 Q as bs→∃ gs:List γ,All2 S as gs∧All2 r gs bs
 |_,_,.nil=>⟨[],.nil,.nil⟩
 |_,_,.cons k t=>by
  obtain ⟨g,h1,h2⟩:=h _ _ k
  obtain ⟨gs,h3,h4⟩:=all2_choice h t
  exact ⟨g::gs,.cons h1 h3,.cons h2 h4⟩
theorem list_choice {γ:Type} {Q:Nat→γ→Prop}:∀ (n:Nat),(∀ i,i<n→∃ g,Q i g)→∃ gs:List γ,gs.length=n∧∀ i (h:i<gs.length),Q i gs[i]
 |0,_=>⟨[],rfl,fun i h=>absurd h (Nat.not_lt_zero _)⟩
 |n+1,h=>by
  obtain ⟨gs,h1,h2⟩:=list_choice n fun i hi=>h i (by omega)
  obtain ⟨g,hg⟩:=h n (by omega)
  refine ⟨gs++[g],by simp [h1],fun i hi=>?_⟩
  rcases Nat.lt_or_ge i gs.length with hlt|hge
  ·rw [List.getElem_append_left hlt];exact h2 i hlt
  ·have:i=gs.length:=by simp at hi;omega
   subst this
   simp only [List.getElem_concat_length]
   rw [h1];exact hg
theorem add_add (a:Addr) (m i:Nat):(a.add m).add i=a.add (m+i):=by
 unfold Addr.add
 by_cases hm:m=0
 ·subst hm
  simp
 ·by_cases hi:i=0
  ·subst hi;simp
  ·simp [hm,hi,Nat.add_assoc]
theorem cells_get {w:World} {base n:Nat} {a:Addr} {cs:List Value} (h:w.cells? base a n=some cs):cs.length=n∧∀ i (hi:i<cs.length),w.cell? (a.add i)=some cs[i]:=by
 unfold World.cells? at h
 split at h
 ·have h1:=mapM_some_length h
  simp only [List.length_range] at h1
  refine ⟨h1,fun i hi=>?_⟩
  have:=mapM_some_get h i i (by rw [List.getElem?_range (by omega)])
  rw [this]
  simp [hi]
 ·cases h
theorem cell_lt {w:World} {a:Addr} {v:Value} (h:w.cell? a=some v):a.block<w.heap.size:=by
 unfold World.cell? at h
 by_cases hlt:a.block<w.heap.size
 ·exact hlt
 ·have:w.heap[a.block]? = none:=by simp;omega
  rw [this] at h
  simp at h
theorem trod_array {H:Type} {enc:TypeId × Value→H} {P:Program} {w:World} {base:Nat} {spare:Nat→Bool} {held:Bool} {fuel:Nat} {t:TypeId} {cs:List Value} {x:DataW H × List MemPlace} {m:Nat} {e:TypeId}
  (ht:P.underlying t=some (.array m e)) (h:DataW.trod enc P w base spare held fuel t cs=some x) :
  ∃ n,fuel=n+1∧cs.length=P.cellsOf t∧∀ i,i<m→∃ y,DataW.trod enc P w base spare held n e ((cs.drop (i*P.cellsOf e)).take (P.cellsOf e))=some y:=by
 cases fuel with
 |zero=>simp [DataW.trod] at h
 |succ n =>
  unfold DataW.trod at h
  rw [ht] at h
  split at h<;>simp_all
  obtain ⟨hl,xs,hp,hd⟩:=h
  intro i hi
  have h1:=mapM_some_length hp
  have h2:=mapM_some_get hp i i (by simp [hi])
  simp only [List.length_range] at h1
  rw [h2]
  refine ⟨(xs[i]'(by omega)).1,(xs[i]'(by omega)).2,?_⟩
  simp [List.getElem?_eq_getElem (show i<xs.length by omega)]
theorem sum_const {α:Type} (c:Nat) (l:List α):(l.map fun _=>c).sum=l.length*c:=by
 induction l with
 |nil=>simp
 |cons a l ih=>simp [ih,Nat.add_mul,Nat.add_comm]
theorem getD_pos {α:Type} (l:List α) (d:α) (j:Nat) (h:j<l.length):l.getD j d=l[j]:=by rw [List.getD_eq_getElem?_getD,List.getElem?_eq_getElem h];rfl
theorem arg_cells {H:Type} {enc:TypeId × Value→H} {P:Program} (hl:laidOutB P=true) {E:Env} (hbase:E.base=E.w.heap.size) (him:∀ b o,E.im0 b o) :
  ∀ (k n:Nat) (t:TypeId) (cs:List Value) (x:DataW H × List MemPlace),plainT P k t=true→DataW.trod enc P E.w 0 (fun _=>true) true n t cs=some x →
   ∃ acs,ArgC P k t acs∧cs.length=P.cellsOf t∧All2 (CR E) acs cs:=by
 intro k
 induction k with
 |zero=>intro n t cs x h;simp [plainT] at h
 |succ k ih =>
  intro n t cs x hp h
  unfold plainT at hp
  simp only [Bool.and_eq_true,decide_eq_true_eq] at hp
  obtain ⟨hlt,hp⟩:=hp
  unfold ArgC
  split at hp
  ·next ht =>
   obtain ⟨b,rfl,_⟩:=DataW.trod_bool ht h
   exact ⟨[.bool b],⟨b,rfl⟩,by simpa using (beq_iff_eq.1 hp).symm,.cons ⟨.bool b,rfl,rfl⟩ .nil⟩
  ·next q ht =>
   obtain ⟨b,rfl,_,hw⟩:=DataW.trod_int ht h
   exact ⟨[.int q b],⟨b,rfl,hw⟩,by simpa using (beq_iff_eq.1 hp).symm,.cons ⟨.int q b,rfl,rfl⟩ .nil⟩
  ·next ht =>
   obtain ⟨s,rfl,_,hw⟩:=DataW.trod_string ht h
   exact ⟨[.str s.data.toList],⟨s.data.toList,rfl,by simpa using hw⟩,by simpa using (beq_iff_eq.1 hp).symm,.cons ⟨.str s _ rfl,rfl,rfl⟩ .nil⟩
  ·next e ht =>
   simp only [Bool.and_eq_true,beq_iff_eq] at hp
   obtain ⟨hc,hpe⟩:=hp
   rcases DataW.trod_slice ht h with ⟨rfl,_⟩|⟨a,len,cap,elems,rest,m,rfl,rfl,_,_,hlc,hcm,hel,hget,_,_⟩
   ·exact ⟨[.sl (P.cellsOf e) true [] .any],⟨true,[],rfl,fun _=>rfl,by simp,fun x hx=>by cases hx⟩,by simpa using hc.symm,.cons ⟨.slnil _ _ trivial,rfl,rfl⟩ .nil⟩
   ·obtain ⟨xs,hxl,hx⟩:=list_choice (Q:=fun i acs=>ArgC P k e acs∧∃ cs':List Value,E.w.cells? 0 (a.add (i*P.cellsOf e)) (P.cellsOf e)=some cs'∧All2 (CR E) acs cs') len (fun i hi=>by
     have h1:=hget i hi
     rw [List.getElem?_eq_getElem (show i<elems.length by omega)] at h1
     obtain ⟨cs',h2,h3⟩:=Option.bind_eq_some_iff.1 h1
     obtain ⟨acs,h4,h5,h6⟩:=ih m e cs' _ hpe h3
     exact ⟨acs,h4,cs',h2,h6⟩)
    have hwr:∀ i (hi:i<xs.length),(wrapA P e xs[i]).cells=xs[i]:=by
     intro i hi
     obtain ⟨h1,cs',h2,h3⟩:=hx i hi
     have hk:∃ k',k=k'+1:=by cases k with|zero=>simp [plainT] at hpe|succ k=>exact ⟨k,rfl⟩
     obtain ⟨k',rfl⟩:=hk
     unfold ArgC at h1
     unfold wrapA
     revert h1
     generalize hg:xs[i]=g
     rw [hg] at h3
     intro h1
     have hone:∀ v:AVal,g=[v]→v.cells=[v]:=by
      intro v hv
      subst hv
      cases h3 with
      |cons h _=>exact h.2.2
     split at h1
     ·next hu=>obtain ⟨b,hb⟩:=h1;rw [hu];simp only;rw [hb];rfl
     ·next hu=>obtain ⟨b,hb,_⟩:=h1;rw [hu];simp only;rw [hb];rfl
     ·next hu=>obtain ⟨b,hb,_⟩:=h1;rw [hu];simp only;rw [hb];rfl
     ·next hu=>obtain ⟨nl,ys,hb,_⟩:=h1;rw [hu];simp only;rw [hb];rfl
     ·next hu=>rw [hu];rfl
     ·next hu=>rw [hu];rfl
     ·exact h1.elim
    have hlen:∀ i (hi:i<xs.length),xs[i].length=P.cellsOf e:=by
     intro i hi
     obtain ⟨h1,cs',h2,h3⟩:=hx i hi
     rw [h3.length,(cells_get h2).1]
    refine ⟨[.sl (P.cellsOf e) false (xs.map (wrapA P e)) .any],⟨false,xs,rfl,fun h=>(by cases h),(by omega),fun x hx'=>?_⟩,by simpa using hc.symm,.cons ⟨?_,rfl,rfl⟩ .nil⟩
    ·obtain ⟨i,hi,rfl⟩:=List.mem_iff_getElem.1 hx'
     exact (hx i hi).1
    ·have hcell:∀ i (hi:i<xs.length) j (hj:j<P.cellsOf e),∃ v,E.w.cell? (a.add (i*P.cellsOf e+j))=some v∧CR E ((xs[i]'hi).getD j .any) v:=by
      intro i hi j hj
      obtain ⟨h1,cs',h2,h3⟩:=hx i hi
      obtain ⟨h4,h5⟩:=cells_get h2
      refine ⟨cs'[j]'(by omega),?_,?_⟩
      ·rw [← add_add];exact h5 j (by omega)
      ·have:=h3.get j (by rw [hlen i hi];exact hj) (by omega)
       rw [getD_pos (xs[i]'hi) .any j (by rw [hlen i hi];exact hj)]
       exact this
     refine .sl (P.cellsOf e) (xs.map (wrapA P e)) .any a len cap (fun j=>(E.w.cell? (a.add j)).getD undef) (by simp [hxl]) hlc hcm ?_ ?_ ?_ trivial
     ·intro j hj
      have hpos:0<P.cellsOf e:=Nat.pos_of_ne_zero fun h0=>by rw [h0] at hj;simp at hj
      have hi:j/P.cellsOf e<xs.length:=by rw [hxl];exact Nat.div_lt_of_lt_mul (by rw [Nat.mul_comm];exact hj)
      obtain ⟨v,hv,hcr⟩:=hcell _ hi (j%P.cellsOf e) (Nat.mod_lt _ hpos)
      obtain ⟨v0,hv0,_⟩:=hcell 0 (Nat.lt_of_le_of_lt (Nat.zero_le _) hi) 0 hpos
      have hsp:a.spot=none:=World.cell?_spot (by simpa [Addr.add] using hv0)
      rw [Nat.div_add_mod' ] at hv
      have hb:=cell_lt hv
      rw [hv]
      refine ⟨hsp,hv,?_,hcr.2.1⟩
      rw [add_form a j hsp] at hb
      exact ⟨hb,.inl ⟨by rw [hbase];exact hb,him _ _⟩⟩
     ·intro i hi
      rw [List.getElem_map,hwr i (by simpa using hi),hlen i (by simpa using hi)]
     ·intro i hi j hj
      have hi':i<xs.length:=by simpa using hi
      simp only [List.getElem_map,hwr i hi',hlen i hi'] at hj ⊢
      obtain ⟨v,hv,hcr⟩:=hcell i hi' j hj
      rw [hv]
      have:=hcr.1
      rw [getD_pos (xs[i]'hi') .any j (by rw [hlen i hi'];exact hj)] at this
      exact this
  ·next fs ht =>
   obtain ⟨xs,m,rfl,_,hcl,hxl,hget⟩:=DataW.trod_struct ht h
   obtain ⟨hk1,hk2,hk3⟩:=kid_struct hl hlt ht
   have hall:=List.all_eq_true.1 hp
   obtain ⟨qs,hq1,hq2⟩:=cut_row (c:=fun f:Field=>P.cellsOf f.type) (Q:=fun f p=>plainT P k f.type=true∧∃ y,DataW.trod enc P E.w 0 (fun _=>true) true m f.type p=some y) fs.toList cs (by rw [hcl,hk2]) (fun j f hf=>by
    have hf':fs[j]? = some f:=by simpa using hf
    have h1:=hget j f hf'
    rw [hk3 j f hf] at h1
    have hj:j<xs.length:=by rw [hxl];exact (Array.getElem?_eq_some_iff.1 hf').1
    rw [List.getElem?_eq_getElem hj] at h1
    exact ⟨hall f (List.mem_of_getElem? hf),_,h1⟩)
   obtain ⟨gs,hg1,hg2⟩:=all2_choice (S:=fun f p=>ArgC P k f.type p) (r:=All2 (CR E)) (fun f p ⟨hpl,y,hy⟩=>by
    obtain ⟨acs,h1,_,h3⟩:=ih m f.type p y hpl hy
    exact ⟨acs,h1,h3⟩) hq2
   refine ⟨gs.flatten,⟨gs,rfl,hg1⟩,hcl,?_⟩
   rw [hq1]
   exact hg2.flatten
  ·next m e ht =>
   obtain ⟨n',rfl,hcl,hget⟩:=trod_array ht h
   have hk:=(kid_array hl hlt ht).2
   obtain ⟨qs,hq1,hq2⟩:=cut_row (c:=fun _:Nat=>P.cellsOf e) (Q:=fun _ p=>∃ y,DataW.trod enc P E.w 0 (fun _=>true) true n' e p=some y) (List.range m) cs (by rw [hcl,hk,sum_const];simp) (fun j f hf=>by
    have hj:j<m:=by have:=(List.getElem?_eq_some_iff.1 hf).1;simpa using this
    rw [sum_const]
    have:=hget j hj
    simpa [Nat.min_eq_left (Nat.le_of_lt hj)] using this)
   obtain ⟨gs,hg1,hg2⟩:=all2_choice (S:=fun _ p=>ArgC P k e p) (r:=All2 (CR E)) (fun f p ⟨y,hy⟩=>by
    obtain ⟨acs,h1,_,h3⟩:=ih n' e p y hp hy
    exact ⟨acs,h1,h3⟩) hq2
   refine ⟨gs.flatten,⟨gs,rfl,by simpa using hg1.length.symm,fun p hp'=>?_⟩,hcl,?_⟩
   ·obtain ⟨_,_,h⟩:=hg1.mem_right p hp'
    exact h
   ·rw [hq1]
    exact hg2.flatten
  ·cases hp
def ArgV (P:Program) (k:Nat) (t:TypeId) (v:AVal):Prop:=∃ cs,v=wrapA P t cs∧ArgC P k t cs
theorem arg_value {H:Type} {enc:TypeId × Value→H} {P:Program} (hl:laidOutB P=true) {E:Env} (hbase:E.base=E.w.heap.size) (him:∀ b o,E.im0 b o) {k:Nat} {t:TypeId} {v:Value} {d:DataW H} {ps:List MemPlace}
  (hp:plainT P k t=true) (h:DataW.Trod enc P E.w 0 (fun _=>true) true t v d ps) {W:World} {r:Reach} {b:Nat} (hok:Value.okWide P W r b t v):∃ a,ArgV P k t a∧R E a v:=by
 obtain ⟨n,h⟩:=h
 obtain ⟨acs,h1,h2,h3⟩:=arg_cells hl hbase him k n t _ _ hp h
 refine ⟨wrapA P t acs,⟨acs,rfl,h1⟩,?_⟩
 have hagg:∀ cs:Array Value,v = .agg cs→R E (.agg acs) v:=by
  intro cs hv
  subst hv
  have h3':All2 (CR E) acs cs.toList:=h3
  refine .agg acs cs (by simpa using h3'.length.symm) fun j hj=>?_
  have hj':j<cs.toList.length:=by rw [← h3'.length];exact hj
  have:=(h3'.get j hj hj').1
  simpa [Array.getD,show j<cs.size by simpa using hj'] using this
 have hone:(∀ cs:Array Value,v ≠ .agg cs)→R E (acs.headD .any) v:=by
  intro hna
  have hc:v.cells.toList=[v]:=by cases v<;>first|rfl|exact absurd rfl (hna _)
  rw [hc] at h3
  cases h3 with
  |cons h _=>exact h.1
 obtain ⟨k',rfl⟩ : ∃ k',k=k'+1:=by cases k with|zero=>simp [plainT] at hp|succ k=>exact ⟨k,rfl⟩
 unfold plainT at hp
 unfold wrapA
 simp only [Bool.and_eq_true,decide_eq_true_eq] at hp
 have hp:=hp.2
 unfold Value.okWide at hok
 split at hp
 ·next hu=>rw [hu] at hok ⊢;exact hone fun cs hv=>by subst hv;simp [Cell.okWide,Cell.ok,hu] at hok
 ·next hu=>rw [hu] at hok ⊢;exact hone fun cs hv=>by subst hv;simp [Cell.okWide,Cell.ok,hu] at hok
 ·next hu=>rw [hu] at hok ⊢;exact hone fun cs hv=>by subst hv;simp [Cell.okWide,Cell.ok,hu] at hok
 ·next hu=>rw [hu] at hok ⊢;exact hone fun cs hv=>by subst hv;simp [Cell.okWide,Cell.ok,hu] at hok
 ·next hu=>rw [hu] at hok ⊢;obtain ⟨cs,hv,_⟩:=hok;exact hagg cs hv
 ·next hu=>rw [hu] at hok ⊢;obtain ⟨cs,hv,_⟩:=hok;exact hagg cs hv
 ·cases hp
theorem arg_all {H:Type} {enc:TypeId × Value→H} {P:Program} (hl:laidOutB P=true) {E:Env} (hbase:E.base=E.w.heap.size) (him:∀ b o,E.im0 b o) {k:Nat} {W:World} {r:Reach} {b:Nat} :
  ∀ {ts:List TypeId} {vs:List Value} {ds:List (DataW H)} {ps:List MemPlace},(∀ t∈ts,plainT P k t=true)→DataW.TrodAll enc P E.w 0 (fun _=>true) true ts vs ds ps →
   (∀ (j:Nat) t v,ts[j]? = some t→vs[j]? = some v→Value.okWide P W r b t v)→∃ avs,All2 (ArgV P k) ts avs∧All2 (R E) avs vs
 |[],[],[],_,_,_,_=>⟨[],.nil,.nil⟩
 |t::ts,v::vs,d::ds,ps,hp,h,hok=>by
  obtain ⟨p,q,h1,h2,_⟩:=h
  obtain ⟨a,ha,hr⟩:=arg_value hl hbase him (hp t (List.mem_cons_self ..)) h1 (hok 0 t v rfl rfl)
  obtain ⟨avs,hb,hs⟩:=arg_all hl hbase him (fun t ht=>hp t (List.mem_cons_of_mem _ ht)) h2 (fun j t v h h'=>hok (j+1) t v (by simpa using h) (by simpa using h'))
  exact ⟨a::avs,.cons ha hb,.cons hr hs⟩
 |[],_::_,_,_,_,h,_=>h.elim
 |[],[],_::_,_,_,h,_=>h.elim
 |_::_,[],_,_,_,h,_=>h.elim
 |_::_,_::_,[],_,_,h,_=>h.elim
theorem law_args {H:Type} {enc:TypeId × Value→H} {C:Cx} (hG:∀ g v,C.G g=some v→False) (hl:laidOutB C.P=true) {k:Nat} {f:FuncId} {ts:List TypeId} (hp:(ts.all fun t=>plainT C.P k t)=true)
  (h:∀ avs,All2 (ArgV C.P k) ts avs→APure C f avs (.bool true)) {w W:World} {r:Reach} {b:Nat} {args:Array Value} {ds:List (DataW H)} {ps:List MemPlace}
  (ht:DataW.TrodAll enc C.P w 0 (fun _=>true) true ts args.toList ds ps) (hok:∀ (j:Nat) t v,ts[j]? = some t→args.toList[j]? = some v→Value.okWide C.P W r b t v) :
  Calls C.P f args w fun e w'=>e = .returned (.bool true)∧w.grownBy w' none:=by
 obtain ⟨avs,h1,h2⟩:=arg_all (E:=env0 w fun _ _=>True) hl rfl (fun _ _=>trivial) (List.all_eq_true.1 hp) ht hok
 refine ((h avs h1).ok w (fun _ _=>True) args (wf0 hG w _) (by simpa using h2.length.symm) (fun j hj=>?_)).mono ?_
 ·have hj':j<args.toList.length:=by rw [← h2.length];exact hj
  have:=h2.get j hj hj'
  simpa [Array.getD,show j<args.size by simpa using hj'] using this
 ·rintro e w' ⟨v,rfl,hg,hr⟩
  rw [hr.bool_inv]
  exact ⟨rfl,hg⟩
theorem trodAll_grown {H:Type} {enc:TypeId × Value→H} {P:Program} (hl:laidOutB P=true) (hm:mapsRowed P=true) (hsz:∀ {t e:TypeId},t<P.types.size→P.underlying t=some (.slice e)→0<P.cellsOf e) {w w':World} (hg:w.grownBy w' none) {sp:Nat→Bool} :
  ∀ {ts:List TypeId} {vs:List Value} {ds:List (DataW H)} {ps:List MemPlace},(∀ t∈ts,t<P.types.size)→DataW.TrodAll enc P w 0 (fun _=>true) true ts vs ds ps→(∀ p∈ps,sp p.block=true)→DataW.TrodAll enc P w' 0 sp true ts vs ds ps
 |[],[],[],_,_,h,_=>h
 |t::ts,v::vs,d::ds,ps,ht,h,hs=>by
  obtain ⟨p,q,⟨n,h1⟩,h2,rfl⟩:=h
  refine ⟨p,q,⟨n,DataW.trod_stays (kids_rows hl hm) hsz (fun h=>by cases h) (ht t (List.mem_cons_self ..)) h1 (fun p' hp'=>?_) (fun p' hp'=>hs p' (List.mem_append_left _ hp'))⟩,trodAll_grown hl hm hsz hg (fun t h=>ht t (List.mem_cons_of_mem _ h)) h2 (fun p' hp'=>hs p' (List.mem_append_right _ hp')),rfl⟩
  have hlt:=DataW.trod_lt n t _ _ h1 p' hp'
  have hb:=hg.block p'.block hlt (by simp)
  cases p' with
  |cell b o=>simp only [World.sameAt];exact cell_same hb o none
  |map b=>simp only [World.sameAt];exact hb
 |[],_::_,_,_,_,h,_=>h.elim
 |[],[],_::_,_,_,h,_=>h.elim
 |_::_,[],_,_,_,h,_=>h.elim
 |_::_,_::_,[],_,_,h,_=>h.elim
end Go.Am
end
