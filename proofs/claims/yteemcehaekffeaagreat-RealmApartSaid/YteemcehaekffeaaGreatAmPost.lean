/- The abstract layer: what a call leaves behind is known less well: a box's cells, a map's values. -/
import Derived.Test.YteemcehaekffeaaGreatAmDeep
import Derived.Test.YteemcehaekffeaaGreatAmKeep
import Derived.Test.YteemcehaekffeaaGreatAmWalkB
set_option linter.unusedVariables false
set_option linter.unusedSimpArgs false
section
namespace Go.Am
open Go
noncomputable section
open Classical
theorem env_wkBox {G:Nat→Option AVal} {E:Env} (hE:Wf G E) (i:Nat) (cs':List AVal) {cs:List AVal} {tb:TypeId} (hS:E.S[i]? = some (.cells cs tb)) (hw:Wks cs cs') :
  Ext E { E with S:=E.S.set i (.cells cs' tb) }∧Wf G { E with S:=E.S.set i (.cells cs' tb) }:=by
 obtain ⟨b,arr,h1,h2,h3,h4⟩:=hE.entry i _ hS
 exact env_set hE (w':=E.w) h1 ⟨rfl,rfl,rfl,Nat.le_refl _,fun _ _ _=>rfl⟩ _ (.cells cs' tb) hS rfl rfl (fun hext=>⟨b,arr,h1,h2,by rw [← Wks_length hw];exact h3,fun j hj=>by
  have hj':j<cs.length:=by rw [Wks_length hw];exact hj
  have r:=h4 j hj'
  exact ⟨(r.1.ext hE hext).wk (Wks_get hw j hj' hj),r.2⟩⟩)
def Wke:List (AVal × AVal × Nat)→List (AVal × AVal × Nat)→Prop
 |[],[]=>True
 |a::as,b::bs=>a.1=b.1∧Wk a.2.1 b.2.1∧a.2.2=b.2.2∧Wke as bs
 |_,_=>False
theorem Wke_length:∀ {a b:List (AVal × AVal × Nat)},Wke a b→a.length=b.length
 |[],[],_=>rfl
 |[],_::_,h=>by simp [Wke] at h
 |_::_,[],h=>by simp [Wke] at h
 |x::a,y::b,h=>by
  simp only [Wke] at h
  simp [Wke_length h.2.2.2]
theorem Wke_get:∀ {a b:List (AVal × AVal × Nat)},Wke a b→∀ (j:Nat) (h1:j<a.length) (h2:j<b.length),a[j].1=b[j].1∧Wk a[j].2.1 b[j].2.1∧a[j].2.2=b[j].2.2
 |[],_,_,j,h1,_=>by simp at h1
 |_::_,[],h,_,_,_=>by simp [Wke] at h
 |x::a,y::b,h,0,_,_=>by
  simp only [Wke] at h
  exact ⟨h.1,h.2.1,h.2.2.1⟩
 |x::a,y::b,h,j+1,h1,h2=>by
  simp only [Wke] at h
  exact Wke_get h.2.2.2 j (by simpa using h1) (by simpa using h2)
theorem Wke_app:∀ (p:List (AVal × AVal × Nat)) {a b:List (AVal × AVal × Nat)},Wke a b→Wke (p++a) (p++b)
 |[],_,_,h=>h
 |x::p,_,_,h=>⟨rfl,Wk_refl _,rfl,Wke_app p h⟩
theorem env_wkMap {G:Nat→Option AVal} {E:Env} (hE:Wf G E) (i:Nat) {es es':List (AVal × AVal × Nat)} {c:Nat} (hS:E.S[i]? = some (.mp es c)) (hw:Wke es es') :
  Ext E { E with S:=E.S.set i (.mp es' c) }∧Wf G { E with S:=E.S.set i (.mp es' c) }:=by
 obtain ⟨b,ms,h1,h2,h3,h4⟩:=hE.entry i _ hS
 exact env_set hE (w':=E.w) h1 ⟨rfl,rfl,rfl,Nat.le_refl _,fun _ _ _=>rfl⟩ _ (.mp es' c) hS rfl rfl (fun hext=>⟨b,ms,h1,h2,by rw [← Wke_length hw];exact h3,fun j hj=>by
  have hj':j<es.length:=by rw [Wke_length hw];exact hj
  have r:=h4 j hj'
  have q:=Wke_get hw j hj' hj
  exact ⟨by rw [← q.1];exact r.1.ext hE hext,(r.2.1.ext hE hext).wk q.2.1,by rw [← q.2.2];exact r.2.2⟩⟩)
theorem ACall.post {C:Cx} {f:FuncId} {args:List AVal} {S S' S'':St} {r:AVal} (h:ACall C f args S r S') (g:∀ E:Env,Wf C.G E→E.S=S'→Ext E { E with S:=S'' }∧Wf C.G { E with S:=S'' }):ACall C f args S r S'':=by
 refine ⟨h.callable,fun E vs hE hES hvs hrel=>(h.ok E vs hE hES hvs hrel).mono ?_⟩
 rintro _ _ ⟨E',v,h1,h2,h3,h4,h5,h6⟩
 obtain ⟨g1,g2⟩:=g E' h3 h5
 exact ⟨{ E' with S:=S'' },v,h1,h2,g2,h4.trans hE g1,rfl,h6.ext h3 g1⟩
theorem ACall.wkBox {C:Cx} {f:FuncId} {args:List AVal} {S S':St} {r:AVal} (h:ACall C f args S r S') (i:Nat) (cs':List AVal) {cs:List AVal} {tb:TypeId} (hS:S'[i]? = some (.cells cs tb)) (hw:Wks cs cs'):ACall C f args S r (S'.set i (.cells cs' tb)) :=
 h.post fun E hE hES=>by subst hES;exact env_wkBox hE i cs' hS hw
theorem ACall.wkMap {C:Cx} {f:FuncId} {args:List AVal} {S S':St} {r:AVal} (h:ACall C f args S r S') (i:Nat) {es es':List (AVal × AVal × Nat)} {c:Nat} (hS:S'[i]? = some (.mp es c)) (hw:Wke es es'):ACall C f args S r (S'.set i (.mp es' c)) :=
 h.post fun E hE hES=>by subst hES;exact env_wkMap hE i hS hw
theorem fill_appR {S0:St}:∀ (L:Holes) (J:St),(∀ e∈L,S0.length≤e.1)→fill (S0++J) L=S0++fill J (L.map fun e=>(e.1-S0.length,e.2))
 |[],_,_=>rfl
 |e::L,J,h=>by
  show fill ((S0++J).set e.1 e.2) L=S0++fill (J.set (e.1-S0.length) e.2) (L.map fun e=>(e.1-S0.length,e.2))
  rw [List.set_append_right _ _ (h e (List.mem_cons_self ..)),fill_appR L _ fun e' he'=>h e' (List.mem_cons_of_mem _ he')]
theorem aLH_callR {C:Cx} {U:UL} {B:List (Option Nat × Nat)} {H:Holes} {p:FuncId→Bool} {q:Nat→Option UL} {d:Option Nat} {gd:Option (Option Nat × Bool)} {x:Operand} {xs:Array Operand} {ts:Array TypeId} {rest:List LO} {Q:Fr→St→Prop} {fr:Fr} {S0 S1 T T':St} {f:FuncId} {as bs args cargs:List AVal} {r:AVal} {fr':Fr}
  (hc:∀ R:St,ACall C f cargs (S0++R) r (S1++R)) (J:St) (hp:p f=false) (hlen:S1.length=S0.length) (hHs:∀ e∈H,S0.length≤e.1) (hT:T=S0++J) (hg:wantL gd fr=some true) (hx:aEval (C.wp p q) fr.get x = .fn (.func f) as bs) (ha:as++xs.toList.map (aEval (C.wp p q) fr.get)++bs=args) (he:cargs=args) (hf:fr.put d r=fr') (hT':S1++J=T')
  (hB:∀ e∈B,(e.1,d)∈U→(S1++J)[e.2]? = (S0++J)[e.2]?) (k:aL (C.wp p q) (some (U,B,H)) rest Q fr' T'):aL (C.wp p q) (some (U,B,H)) (⟨d,.call ⟨.value x,xs,ts⟩,gd⟩::rest) Q fr T:=by
 subst hT hT'
 refine aLH_call hg hx ha (he▸(hc J).callX hp) hf (fun e hm h=>?_) (fun L hL=>?_) hB k
 ·rw [List.getElem?_append_right (by have:=hHs e hm;omega)] at h ⊢
  rw [hlen] at h
  exact h
 ·rw [fill_appR L J fun e hm=>hHs e (hL e hm).1,fill_appR (S0:=S1) L J fun e hm=>by have:=hHs e (hL e hm).1;omega,hlen]
  exact he▸(hc _).callX hp
end
end Go.Am
end
section
namespace Go.Am
open Go
noncomputable section
open Classical
mutual
def Wd:AVal→AVal→Prop
 |.agg a,.agg b=>Wds a b
 |.tup a,.tup b=>Wds a b
 |.sl sz nl xs tg,.sl sz' nl' xs' tg'=>nl=nl'∧(tg' = .any∨tg'=tg)∧Wds xs xs'∧(sz=sz'∨(nl=true∧xs=[]∧tg' = .any))
 |v,v'=>v=v'
def Wds:List AVal→List AVal→Prop
 |[],[]=>True
 |v::vs,v'::vs'=>Wd v v'∧Wds vs vs'
 |_,_=>False
end
mutual
theorem Wd_refl:∀ v:AVal,Wd v v
 |.agg a=>by simp only [Wd];exact Wds_refl a
 |.tup a=>by simp only [Wd];exact Wds_refl a
 |.sl sz nl xs tg=>by
  unfold Wd
  exact ⟨rfl,.inr rfl,Wds_refl xs,.inl rfl⟩
 |.any|.raw _|.int _ _|.bool _|.str _|.nilp|.ptr _ _|.cptr _|.view _ _ _ _|.nilmap|.map _|.fn _ _ _|.nilfn|.ifc _ _|.nilifc|.yld _|.room _ _ _ _|.vrow _ _ _|.ms _ _ _=>by simp [Wd]
theorem Wds_refl:∀ vs:List AVal,Wds vs vs
 |[]=>by simp [Wds]
 |v::vs=>by simp only [Wds];exact ⟨Wd_refl v,Wds_refl vs⟩
end
theorem Wds_length:∀ {a b:List AVal},Wds a b→a.length=b.length
 |[],[],_=>rfl
 |[],_::_,h=>by simp [Wds] at h
 |_::_,[],h=>by simp [Wds] at h
 |x::a,y::b,h=>by
  simp only [Wds] at h
  simp [Wds_length h.2]
theorem Wds_get:∀ {a b:List AVal},Wds a b→∀ (j:Nat) (h1:j<a.length) (h2:j<b.length),Wd a[j] b[j]
 |[],_,_,j,h1,_=>absurd h1 (Nat.not_lt_zero _)
 |_::_,[],h,_,_,_=>by simp [Wds] at h
 |x::a,y::b,h,j,h1,h2=>by
  simp only [Wds] at h
  cases j with
  |zero=>exact h.1
  |succ j=>exact Wds_get h.2 j (by simpa using h1) (by simpa using h2)
theorem Wds_app:∀ (p a b:List AVal),Wds (p++a) (p++b)↔Wds a b
 |[],_,_=>Iff.rfl
 |x::p,a,b=>by
  simp only [List.cons_append,Wds]
  rw [Wds_app p a b]
  exact ⟨fun h=>h.2,fun h=>⟨Wd_refl x,h⟩⟩
theorem Wds_append:∀ {a b c d:List AVal},Wds a b→Wds c d→Wds (a++c) (b++d)
 |[],[],_,_,_,h=>h
 |[],_::_,_,_,h,_=>by simp [Wds] at h
 |_::_,[],_,_,h,_=>by simp [Wds] at h
 |x::a,y::b,c,d,h,k=>by
  simp only [Wds] at h
  simp only [List.cons_append,Wds]
  exact ⟨h.1,Wds_append h.2 k⟩
theorem Wd_cells:∀ {v v':AVal},Wd v v'→Wds v.cells v'.cells:=by
 intro v v' h
 cases v with
 |agg a=>cases v' with
  |agg b=>simpa [Wd,AVal.cells] using h
  |_=>simp [Wd] at h
 |tup a=>cases v' with
  |tup b=>simp only [AVal.cells,Wds,and_true];exact h
  |_=>simp [Wd] at h
 |sl sz nl xs tg=>cases v' with
  |sl sz' nl' xs' tg'=>simp only [AVal.cells,Wds,and_true];exact h
  |_=>simp [Wd] at h
 |_=>cases v'<;>first|(simp [Wd] at h;done)|(simp [Wd] at h;simp [AVal.cells,Wds,Wd,h])
theorem R.wd {E:Env} {v:AVal} {x:Value} (h:R E v x):∀ {v':AVal},Wd v v'→R E v' x:=by
 induction h with
 |agg cs as h1 hx ih =>
  intro v' hw
  cases v' with
  |agg b =>
   simp only [Wd] at hw
   have hl:=Wds_length hw
   exact .agg b as (by omega) fun j hj=>ih j (by omega) (Wds_get hw j (by omega) hj)
  |_=>simp [Wd] at hw
 |tup cs as h1 hx ih =>
  intro v' hw
  cases v' with
  |tup b =>
   simp only [Wd] at hw
   have hl:=Wds_length hw
   exact .tup b as (by omega) fun j hj=>ih j (by omega) (Wds_get hw j (by omega) hj)
  |_=>simp [Wd] at hw
 |slnil sz tg ht =>
  intro v' hw
  cases v' with
  |sl sz' nl' xs' tg' =>
   simp only [Wd] at hw
   obtain ⟨rfl,h2,h3,h4⟩:=hw
   have hl:=Wds_length h3
   have hx:xs'=[]:=List.length_eq_zero_iff.1 hl.symm
   ·subst hx
    rcases h2 with rfl|rfl
    ·exact .slnil _ _ trivial
    ·rcases h4 with rfl|⟨_,_,rfl⟩
     ·exact .slnil _ _ ht
     ·exact .slnil _ _ trivial
  |_=>simp [Wd] at hw
 |sl sz xs tg ad n c f hn hc hm hf hsz hr ht ih =>
  intro v' hw
  cases v' with
  |sl sz' nl' xs' tg' =>
   simp only [Wd] at hw
   obtain ⟨rfl,h2,h3,h4⟩:=hw
   have hl:=Wds_length h3
   rcases h4 with rfl|⟨h4,_⟩
   ·refine .sl _ _ _ ad n c f (by omega) hc hm hf (fun k hk=>?_) (fun k hk j hj=>?_) ?_
    ·rw [← Wds_length (Wd_cells (Wds_get h3 k (by omega) hk))]
     exact hsz k (by omega)
    ·have q:=Wd_cells (Wds_get h3 k (by omega) hk)
     exact ih k (by omega) j (by rw [Wds_length q];exact hj) (Wds_get q j (by rw [Wds_length q];exact hj) hj)
    ·rcases h2 with rfl|rfl
     ·trivial
     ·exact ht
   ·cases h4
  |_=>simp [Wd] at hw
 |any x=>intro v' hw;cases v'<;>simp [Wd] at hw;exact .any x
 |raw x=>intro v' hw;cases v'<;>simp [Wd] at hw;subst hw;exact .raw x
 |int k n=>intro v' hw;cases v'<;>simp [Wd] at hw;obtain ⟨rfl,rfl⟩:=hw;exact .int k n
 |bool b=>intro v' hw;cases v'<;>simp [Wd] at hw;subst hw;exact .bool b
 |str s l h=>intro v' hw;cases v'<;>simp [Wd] at hw;subst hw;exact .str s l h
 |nilp=>intro v' hw;cases v'<;>simp [Wd] at hw;exact .nilp
 |ptr i off b h hb=>intro v' hw;cases v'<;>simp [Wd] at hw;obtain ⟨rfl,rfl⟩:=hw;exact .ptr i off b h hb
 |cptr cs ad f hf hr _=>intro v' hw;cases v'<;>simp [Wd] at hw;subst hw;exact .cptr cs ad f hf hr
 |view i off n cap b hnc h hb=>intro v' hw;cases v'<;>simp [Wd] at hw;obtain ⟨rfl,rfl,rfl,rfl⟩:=hw;exact .view i off n cap b hnc h hb
 |nilmap=>intro v' hw;cases v'<;>simp [Wd] at hw;exact .nilmap
 |map i b h hb=>intro v' hw;cases v'<;>simp [Wd] at hw;subst hw;exact .map i b h hb
 |fn f xs ys as bs h1 h2 hx hy _ _=>intro v' hw;cases v'<;>simp [Wd] at hw;obtain ⟨rfl,rfl,rfl⟩:=hw;exact .fn f xs ys as bs h1 h2 hx hy
 |nilfn=>intro v' hw;cases v'<;>simp [Wd] at hw;exact .nilfn
 |ifc t v x h _=>intro v' hw;cases v'<;>simp [Wd] at hw;obtain ⟨rfl,rfl⟩:=hw;exact .ifc t v x h
 |nilifc=>intro v' hw;cases v'<;>simp [Wd] at hw;exact .nilifc
 |yld i b h hb=>intro v' hw;cases v'<;>simp [Wd] at hw;subst hw;exact .yld i b h hb
 |room g sz t n b c hn hm h=>intro v' hw;cases v'<;>simp [Wd] at hw;obtain ⟨rfl,rfl,rfl,rfl⟩:=hw;exact .room g sz t n b c hn hm h
 |vrow i off n b c hnc hcm h hb=>intro v' hw;cases v'<;>simp [Wd] at hw;obtain ⟨rfl,rfl,rfl⟩:=hw;exact .vrow i off n b c hnc hcm h hb
 |ms i sz n b c hnc hcm h hb hcp=>intro v' hw;cases v'<;>simp [Wd] at hw;obtain ⟨rfl,rfl,rfl⟩:=hw;exact .ms i sz n b c hnc hcm h hb hcp
theorem env_wdBox {G:Nat→Option AVal} {E:Env} (hE:Wf G E) (i:Nat) (cs':List AVal) {cs:List AVal} {tb:TypeId} (hS:E.S[i]? = some (.cells cs tb)) (hw:Wds cs cs') :
  Ext E { E with S:=E.S.set i (.cells cs' tb) }∧Wf G { E with S:=E.S.set i (.cells cs' tb) }:=by
 obtain ⟨b,arr,h1,h2,h3,h4⟩:=hE.entry i _ hS
 exact env_set hE (w':=E.w) h1 ⟨rfl,rfl,rfl,Nat.le_refl _,fun _ _ _=>rfl⟩ _ (.cells cs' tb) hS rfl rfl (fun hext=>⟨b,arr,h1,h2,by rw [← Wds_length hw];exact h3,fun j hj=>by
  have hj':j<cs.length:=by rw [Wds_length hw];exact hj
  have r:=h4 j hj'
  exact ⟨(r.1.ext hE hext).wd (Wds_get hw j hj' hj),r.2⟩⟩)
theorem env_wdRow {G:Nat→Option AVal} {E:Env} (hE:Wf G E) (i:Nat) (cs':List AVal) {cs:List AVal} {tb:TypeId} (hS:E.S[i]? = some (.row cs tb)) (hw:Wds cs cs') :
  Ext E { E with S:=E.S.set i (.row cs' tb) }∧Wf G { E with S:=E.S.set i (.row cs' tb) }:=by
 obtain ⟨b,arr,h1,h2,h3,h4⟩:=hE.entry i _ hS
 exact env_set hE (w':=E.w) h1 ⟨rfl,rfl,rfl,Nat.le_refl _,fun _ _ _=>rfl⟩ _ (.row cs' tb) hS rfl rfl (fun hext=>⟨b,arr,h1,h2,by rw [← Wds_length hw];exact h3,fun j hj=>by
  have hj':j<cs.length:=by rw [Wds_length hw];exact hj
  have r:=h4 j hj'
  exact ⟨(r.1.ext hE hext).wd (Wds_get hw j hj' hj),r.2⟩⟩) (hrw:=.inr ⟨⟨_,_,rfl⟩,.same rfl⟩)
theorem ACall.wdBox {C:Cx} {f:FuncId} {args:List AVal} {S S':St} {r:AVal} (h:ACall C f args S r S') (i:Nat) (cs':List AVal) {cs:List AVal} {tb:TypeId} (hS:S'[i]? = some (.cells cs tb)) (hw:Wds cs cs'):ACall C f args S r (S'.set i (.cells cs' tb)) :=
 h.post fun E hE hES=>by subst hES;exact env_wdBox hE i cs' hS hw
theorem ACall.wdRow {C:Cx} {f:FuncId} {args:List AVal} {S S':St} {r:AVal} (h:ACall C f args S r S') (i:Nat) (cs':List AVal) {cs:List AVal} {tb:TypeId} (hS:S'[i]? = some (.row cs tb)) (hw:Wds cs cs'):ACall C f args S r (S'.set i (.row cs' tb)) :=
 h.post fun E hE hES=>by subst hES;exact env_wdRow hE i cs' hS hw
theorem ACall.wdRes {C:Cx} {f:FuncId} {args:List AVal} {S S':St} {r r':AVal} (h:ACall C f args S r S') (hr:Wd r r'):ACall C f args S r' S' :=
 ⟨h.callable,fun E vs hE hES hvs hrel=>(h.ok E vs hE hES hvs hrel).mono fun _ _ ⟨E',v,h1,h2,h3,h4,h5,h6⟩=>⟨E',v,h1,h2,h3,h4,h5,h6.wd hr⟩⟩
end
end Go.Am
end
section
namespace Go.Am
open Go
noncomputable section
open Classical
variable {C:Cx}
theorem aLB_appR {U:UL} {B:List (Option Nat × Nat)} {d:Option Nat} {x v:Operand} {t tx:TypeId} {gd:Option (Option Nat × Bool)} {rest:List LO} {Q:Fr→St→Prop} {fr:Fr} {S:St} {sd:Prop} {r:AVal} {S':St} {fr':Fr} {av aw:AVal}
  (hg:wantL gd fr=some true) (hx:aEval C fr.get x=av) (hv:aEval C fr.get v=aw) (h:aAppR C S t tx av aw=some ⟨sd,r,S'⟩) (hf:fr.put d r=fr')
  (hk:∀ e∈B,(e.1,d)∈U→S'[e.2]? = S[e.2]?) (k:aL C (some (U,B,[])) rest Q fr' S') (hs:sd) :
  aL C (some (U,B,[])) (⟨d,.call { callee:=.builtin .append,args := #[x,v],argTypes := #[t,tx] },gd⟩::rest) Q fr S:=by
 subst hf hx hv
 have hb:BOk C (some (U,B,[])) (bare (.call { callee:=.builtin .append,args := #[x,v],argTypes := #[t,tx] }) d) fr.get S r S' :=
  bok0 (o:=bare (.call { callee:=.builtin .append,args := #[x,v],argTypes := #[t,tx] }) d) (.appR x v t tx ⟨sd,r,S'⟩ rfl (.inl h) hs) (by simp [bare,cls,clsB]) (fun b hb=>by cases hb) hk rfl
 simp only [aL,hg,if_true,aOpK]
 exact .inr (.inl (.inr (.inl ⟨x,v,t,tx,_,rfl,.inl h,hs,hb,k⟩)))
theorem aLB_appN {U:UL} {B:List (Option Nat × Nat)} {d:Option Nat} {x v:Operand} {t tx:TypeId} {gd:Option (Option Nat × Bool)} {rest:List LO} {Q:Fr→St→Prop} {fr:Fr} {S:St} {sd:Prop} {r:AVal} {S':St} {fr':Fr} {av aw:AVal}
  (hg:wantL gd fr=some true) (hx:aEval C fr.get x=av) (hv:aEval C fr.get v=aw) (h:aAppN C S t tx av aw=some ⟨sd,r,S'⟩) (hf:fr.put d r=fr')
  (hk:∀ e∈B,(e.1,d)∈U→S'[e.2]? = S[e.2]?) (k:aL C (some (U,B,[])) rest Q fr' S') (hs:sd) :
  aL C (some (U,B,[])) (⟨d,.call { callee:=.builtin .append,args := #[x,v],argTypes := #[t,tx] },gd⟩::rest) Q fr S:=by
 subst hf hx hv
 have hb:BOk C (some (U,B,[])) (bare (.call { callee:=.builtin .append,args := #[x,v],argTypes := #[t,tx] }) d) fr.get S r S' :=
  bok0 (o:=bare (.call { callee:=.builtin .append,args := #[x,v],argTypes := #[t,tx] }) d) (.appR x v t tx ⟨sd,r,S'⟩ rfl (.inr h) hs) (by simp [bare,cls,clsB]) (fun b hb=>by cases hb) hk rfl
 simp only [aL,hg,if_true,aOpK]
 exact .inr (.inl (.inr (.inl ⟨x,v,t,tx,_,rfl,.inr h,hs,hb,k⟩)))
end
end Go.Am
end
section
namespace Go.Am
open Go
noncomputable section
open Classical
variable {C:Cx}
end
end Go.Am
end
section
namespace Go.Am
open Go
noncomputable section
open Classical
variable {C:Cx}
theorem aL_lookM {d:Option Nat} {gd:Option (Option Nat × Bool)} {t kt et:TypeId} {i j:TI} {m k:Operand} {ok:Bool} {rest:List LO} {Q:Fr→St→Prop} {fr:Fr} {S:St} {b c:Nat} {es:Ents} {kv r:AVal} {fr':Fr}
  (hg:wantL gd fr=some true) (hT:C.T t=some i) (hd:i.d = .map kt et) (hj:C.T et=some j) (hm:aEval C fr.get m = .map b) (hk:aEval C fr.get k=kv) (hS:S[b]? = some (.mp es c))
  (hr:(if ok=true then AVal.tup [lookV kv es (ofCells j j.zero),.bool (findK kv es).isSome] else lookV kv es (ofCells j j.zero))=r) (hf:fr.put d r=fr') (kk:aL C none rest Q fr' S) (hs:keysOk C kt kv es) :
  aL C none (⟨d,.lookup t m k ok,gd⟩::rest) Q fr S:=by
 refine aL_step True.intro hg (sd:=keysOk C kt kv es) (r:=r) ?_ hf kk hs
 subst hk hr
 show aLookup C S t (aEval C fr.get m) (aEval C fr.get k) ok=_
 rw [hm]
 unfold aLookup
 simp only [hT,hd,hj,hS]
theorem aL_updM {d:Option Nat} {gd:Option (Option Nat × Bool)} {t kt et:TypeId} {i:TI} {m k v:Operand} {rest:List LO} {Q:Fr→St→Prop} {fr:Fr} {S S':St} {b c:Nat} {es:Ents} {kv vv:AVal} {fr':Fr}
  (hg:wantL gd fr=some true) (hT:C.T t=some i) (hd:i.d = .map kt et) (hm:aEval C fr.get m = .map b) (hk:aEval C fr.get k=kv) (hv:aEval C fr.get v=vv) (hS:S[b]? = some (.mp es c))
  (hr:S.set b (setK kv vv es c)=S') (hf:fr.put d (.raw undef)=fr') (kk:aL C none rest Q fr' S') (hs:keysOk C kt kv es) :
  aL C none (⟨d,.mapUpdate t m k v,gd⟩::rest) Q fr S:=by
 refine aL_step True.intro hg (sd:=keysOk C kt kv es) (r:=.raw undef) (S':=S') ?_ hf kk hs
 subst hk hv hr
 show aMapUpdate C S t (aEval C fr.get m) (aEval C fr.get k) (aEval C fr.get v)=_
 rw [hm]
 unfold aMapUpdate
 simp only [hT,hd,hS]
theorem aL_delM {d:Option Nat} {gd:Option (Option Nat × Bool)} {t t2 kt et:TypeId} {i:TI} {m k:Operand} {rest:List LO} {Q:Fr→St→Prop} {fr:Fr} {S S':St} {b c:Nat} {es:Ents} {kv:AVal} {fr':Fr}
  (hg:wantL gd fr=some true) (hT:C.T t=some i) (hd:i.d = .map kt et) (hm:aEval C fr.get m = .map b) (hk:aEval C fr.get k=kv) (hS:S[b]? = some (.mp es c))
  (hr:S.set b (delK kv es c)=S') (hf:fr.put d (.tup [])=fr') (kk:aL C none rest Q fr' S') (hs:keysOk C kt kv es) :
  aL C none (⟨d,.call ⟨.builtin .delete,#[m,k],#[t,t2]⟩,gd⟩::rest) Q fr S:=by
 refine aL_step True.intro hg (sd:=keysOk C kt kv es) (r:=.tup []) (S':=S') ?_ hf kk hs
 subst hk hr
 show aDelete C S t (aEval C fr.get m) (aEval C fr.get k)=_
 rw [hm]
 unfold aDelete
 simp only [hT,hd,hS]
end
end Go.Am
end
