/- The abstract layer: boxes and rows that a call leaves behind are known less well, also within slices. -/
import Derived.Test.YteemcehaekffeaaGreatAmPost
set_option linter.unusedVariables false
set_option linter.unusedSimpArgs false
namespace Go.Am
open Go
noncomputable section
open Classical
mutual
def Wd:AVal→AVal→Prop
 |.agg a,.agg b=>Wds a b
 |.tup a,.tup b=>Wds a b
 |.sl sz nl xs tg,.sl sz' nl' xs' tg'=>nl=nl'∧(tg' = .any∨tg'=tg)∧Wds xs xs'∧(sz=sz'∨(nl=true∧xs=[]∧tg' = .any))
 |v,v'=>v=v'
def Wds:List AVal→List AVal→Prop
 |[],[]=>True
 |v::vs,v'::vs'=>Wd v v'∧Wds vs vs'
 |_,_=>False
end
mutual
theorem Wd_refl:∀ v:AVal,Wd v v
 |.agg a=>by simp only [Wd];exact Wds_refl a
 |.tup a=>by simp only [Wd];exact Wds_refl a
 |.sl sz nl xs tg=>by
  unfold Wd
  exact ⟨rfl,.inr rfl,Wds_refl xs,.inl rfl⟩
 |.any|.raw _|.int _ _|.bool _|.str _|.nilp|.ptr _ _|.cptr _|.view _ _ _ _|.nilmap|.map _|.fn _ _ _|.nilfn|.ifc _ _|.nilifc|.yld _|.room _ _ _ _|.vrow _ _ _|.ms _ _ _=>by simp [Wd]
theorem Wds_refl:∀ vs:List AVal,Wds vs vs
 |[]=>by simp [Wds]
 |v::vs=>by simp only [Wds];exact ⟨Wd_refl v,Wds_refl vs⟩
end
theorem Wds_length:∀ {a b:List AVal},Wds a b→a.length=b.length
 |[],[],_=>rfl
 |[],_::_,h=>by simp [Wds] at h
 |_::_,[],h=>by simp [Wds] at h
 |x::a,y::b,h=>by
  simp only [Wds] at h
  simp [Wds_length h.2]
theorem Wds_get:∀ {a b:List AVal},Wds a b→∀ (j:Nat) (h1:j<a.length) (h2:j<b.length),Wd a[j] b[j]
 |[],_,_,j,h1,_=>absurd h1 (Nat.not_lt_zero _)
 |_::_,[],h,_,_,_=>by simp [Wds] at h
 |x::a,y::b,h,j,h1,h2=>by
  simp only [Wds] at h
  cases j with
  |zero=>exact h.1
  |succ j=>exact Wds_get h.2 j (by simpa using h1) (by simpa using h2)
theorem Wds_app:∀ (p a b:List AVal),Wds (p++a) (p++b)↔Wds a b
 |[],_,_=>Iff.rfl
 |x::p,a,b=>by
  simp only [List.cons_append,Wds]
  rw [Wds_app p a b]
  exact ⟨fun h=>h.2,fun h=>⟨Wd_refl x,h⟩⟩
theorem Wds_append:∀ {a b c d:List AVal},Wds a b→Wds c d→Wds (a++c) (b++d)
 |[],[],_,_,_,h=>h
 |[],_::_,_,_,h,_=>by simp [Wds] at h
 |_::_,[],_,_,h,_=>by simp [Wds] at h
 |x::a,y::b,c,d,h,k=>by
  simp only [Wds] at h
  simp only [List.cons_append,Wds]
  exact ⟨h.1,Wds_append h.2 k⟩
theorem Wd_cells:∀ {v v':AVal},Wd v v'→Wds v.cells v'.cells:=by
 intro v v' h
 cases v with
 |agg a=>cases v' with
  |agg b=>simpa [Wd,AVal.cells] using h
  |_=>simp [Wd] at h
 |tup a=>cases v' with
  |tup b=>simp only [AVal.cells,Wds,and_true];exact h
  |_=>simp [Wd] at h
 |sl sz nl xs tg=>cases v' with
  |sl sz' nl' xs' tg'=>simp only [AVal.cells,Wds,and_true];exact h
  |_=>simp [Wd] at h
 |_=>cases v'<;>first|(simp [Wd] at h;done)|(simp [Wd] at h;simp [AVal.cells,Wds,Wd,h])
theorem R.wd {E:Env} {v:AVal} {x:Value} (h:R E v x):∀ {v':AVal},Wd v v'→R E v' x:=by
 induction h with
 |agg cs as h1 hx ih =>
  intro v' hw
  cases v' with
  |agg b =>
   simp only [Wd] at hw
   have hl:=Wds_length hw
   exact .agg b as (by omega) fun j hj=>ih j (by omega) (Wds_get hw j (by omega) hj)
  |_=>simp [Wd] at hw
 |tup cs as h1 hx ih =>
  intro v' hw
  cases v' with
  |tup b =>
   simp only [Wd] at hw
   have hl:=Wds_length hw
   exact .tup b as (by omega) fun j hj=>ih j (by omega) (Wds_get hw j (by omega) hj)
  |_=>simp [Wd] at hw
 |slnil sz tg ht =>
  intro v' hw
  cases v' with
  |sl sz' nl' xs' tg' =>
   simp only [Wd] at hw
   obtain ⟨rfl,h2,h3,h4⟩:=hw
   have hl:=Wds_length h3
   have hx:xs'=[]:=List.length_eq_zero_iff.1 hl.symm
   ·subst hx
    rcases h2 with rfl|rfl
    ·exact .slnil _ _ trivial
    ·rcases h4 with rfl|⟨_,_,rfl⟩
     ·exact .slnil _ _ ht
     ·exact .slnil _ _ trivial
  |_=>simp [Wd] at hw
 |sl sz xs tg ad n c f hn hc hm hf hsz hr ht ih =>
  intro v' hw
  cases v' with
  |sl sz' nl' xs' tg' =>
   simp only [Wd] at hw
   obtain ⟨rfl,h2,h3,h4⟩:=hw
   have hl:=Wds_length h3
   rcases h4 with rfl|⟨h4,_⟩
   ·refine .sl _ _ _ ad n c f (by omega) hc hm hf (fun k hk=>?_) (fun k hk j hj=>?_) ?_
    ·rw [← Wds_length (Wd_cells (Wds_get h3 k (by omega) hk))]
     exact hsz k (by omega)
    ·have q:=Wd_cells (Wds_get h3 k (by omega) hk)
     exact ih k (by omega) j (by rw [Wds_length q];exact hj) (Wds_get q j (by rw [Wds_length q];exact hj) hj)
    ·rcases h2 with rfl|rfl
     ·trivial
     ·exact ht
   ·cases h4
  |_=>simp [Wd] at hw
 |any x=>intro v' hw;cases v'<;>simp [Wd] at hw;exact .any x
 |raw x=>intro v' hw;cases v'<;>simp [Wd] at hw;subst hw;exact .raw x
 |int k n=>intro v' hw;cases v'<;>simp [Wd] at hw;obtain ⟨rfl,rfl⟩:=hw;exact .int k n
 |bool b=>intro v' hw;cases v'<;>simp [Wd] at hw;subst hw;exact .bool b
 |str s l h=>intro v' hw;cases v'<;>simp [Wd] at hw;subst hw;exact .str s l h
 |nilp=>intro v' hw;cases v'<;>simp [Wd] at hw;exact .nilp
 |ptr i off b h hb=>intro v' hw;cases v'<;>simp [Wd] at hw;obtain ⟨rfl,rfl⟩:=hw;exact .ptr i off b h hb
 |cptr cs ad f hf hr _=>intro v' hw;cases v'<;>simp [Wd] at hw;subst hw;exact .cptr cs ad f hf hr
 |view i off n cap b hnc h hb=>intro v' hw;cases v'<;>simp [Wd] at hw;obtain ⟨rfl,rfl,rfl,rfl⟩:=hw;exact .view i off n cap b hnc h hb
 |nilmap=>intro v' hw;cases v'<;>simp [Wd] at hw;exact .nilmap
 |map i b h hb=>intro v' hw;cases v'<;>simp [Wd] at hw;subst hw;exact .map i b h hb
 |fn f xs ys as bs h1 h2 hx hy _ _=>intro v' hw;cases v'<;>simp [Wd] at hw;obtain ⟨rfl,rfl,rfl⟩:=hw;exact .fn f xs ys as bs h1 h2 hx hy
 |nilfn=>intro v' hw;cases v'<;>simp [Wd] at hw;exact .nilfn
 |ifc t v x h _=>intro v' hw;cases v'<;>simp [Wd] at hw;obtain ⟨rfl,rfl⟩:=hw;exact .ifc t v x h
 |nilifc=>intro v' hw;cases v'<;>simp [Wd] at hw;exact .nilifc
 |yld i b h hb=>intro v' hw;cases v'<;>simp [Wd] at hw;subst hw;exact .yld i b h hb
 |room g sz t n b c hn hm h=>intro v' hw;cases v'<;>simp [Wd] at hw;obtain ⟨rfl,rfl,rfl,rfl⟩:=hw;exact .room g sz t n b c hn hm h
 |vrow i off n b c hnc hcm h hb=>intro v' hw;cases v'<;>simp [Wd] at hw;obtain ⟨rfl,rfl,rfl⟩:=hw;exact .vrow i off n b c hnc hcm h hb
 |ms i sz n b c hnc hcm h hb hcp=>intro v' hw;cases v'<;>simp [Wd] at hw;obtain ⟨rfl,rfl,rfl⟩:=hw;exact .ms i sz n b c hnc hcm h hb hcp
theorem env_wdBox {G:Nat→Option AVal} {E:Env} (hE:Wf G E) (i:Nat) (cs':List AVal) {cs:List AVal} {tb:TypeId} (hS:E.S[i]? = some (.cells cs tb)) (hw:Wds cs cs') :
  Ext E { E with S:=E.S.set i (.cells cs' tb) }∧Wf G { E with S:=E.S.set i (.cells cs' tb) }:=by
 obtain ⟨b,arr,h1,h2,h3,h4⟩:=hE.entry i _ hS
 exact env_set hE (w':=E.w) h1 ⟨rfl,rfl,rfl,Nat.le_refl _,fun _ _ _=>rfl⟩ _ (.cells cs' tb) hS rfl rfl (fun hext=>⟨b,arr,h1,h2,by rw [← Wds_length hw];exact h3,fun j hj=>by
  have hj':j<cs.length:=by rw [Wds_length hw];exact hj
  have r:=h4 j hj'
  exact ⟨(r.1.ext hE hext).wd (Wds_get hw j hj' hj),r.2⟩⟩)
theorem env_wdRow {G:Nat→Option AVal} {E:Env} (hE:Wf G E) (i:Nat) (cs':List AVal) {cs:List AVal} {tb:TypeId} (hS:E.S[i]? = some (.row cs tb)) (hw:Wds cs cs') :
  Ext E { E with S:=E.S.set i (.row cs' tb) }∧Wf G { E with S:=E.S.set i (.row cs' tb) }:=by
 obtain ⟨b,arr,h1,h2,h3,h4⟩:=hE.entry i _ hS
 exact env_set hE (w':=E.w) h1 ⟨rfl,rfl,rfl,Nat.le_refl _,fun _ _ _=>rfl⟩ _ (.row cs' tb) hS rfl rfl (fun hext=>⟨b,arr,h1,h2,by rw [← Wds_length hw];exact h3,fun j hj=>by
  have hj':j<cs.length:=by rw [Wds_length hw];exact hj
  have r:=h4 j hj'
  exact ⟨(r.1.ext hE hext).wd (Wds_get hw j hj' hj),r.2⟩⟩) (hrw:=.inr ⟨⟨_,_,rfl⟩,.same rfl⟩)
theorem ACall.wdBox {C:Cx} {f:FuncId} {args:List AVal} {S S':St} {r:AVal} (h:ACall C f args S r S') (i:Nat) (cs':List AVal) {cs:List AVal} {tb:TypeId} (hS:S'[i]? = some (.cells cs tb)) (hw:Wds cs cs'):ACall C f args S r (S'.set i (.cells cs' tb)) :=
 h.post fun E hE hES=>by subst hES;exact env_wdBox hE i cs' hS hw
theorem ACall.wdRow {C:Cx} {f:FuncId} {args:List AVal} {S S':St} {r:AVal} (h:ACall C f args S r S') (i:Nat) (cs':List AVal) {cs:List AVal} {tb:TypeId} (hS:S'[i]? = some (.row cs tb)) (hw:Wds cs cs'):ACall C f args S r (S'.set i (.row cs' tb)) :=
 h.post fun E hE hES=>by subst hES;exact env_wdRow hE i cs' hS hw
theorem ACall.wdRes {C:Cx} {f:FuncId} {args:List AVal} {S S':St} {r r':AVal} (h:ACall C f args S r S') (hr:Wd r r'):ACall C f args S r' S' :=
 ⟨h.callable,fun E vs hE hES hvs hrel=>(h.ok E vs hE hES hvs hrel).mono fun _ _ ⟨E',v,h1,h2,h3,h4,h5,h6⟩=>⟨E',v,h1,h2,h3,h4,h5,h6.wd hr⟩⟩
end
end Go.Am
