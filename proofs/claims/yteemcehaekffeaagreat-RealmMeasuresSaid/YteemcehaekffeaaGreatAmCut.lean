/- The abstract layer: a walk may be cut: what a part leaves is said once, and the rest goes on from there. -/
import Derived.Test.YteemcehaekffeaaGreatAmWalkR
set_option linter.unusedVariables false
set_option linter.unusedSimpArgs false
namespace Go.Am
open Go
noncomputable section
open Classical
variable {C:Cx}
theorem aOpK_mono {op:Op} {fr:Fr} {S:St} {K K':AVal→St→Prop} (hk:∀ r S,K r S→K' r S) (h:aOpK C op fr S K):aOpK C op fr S K':=by
 unfold aOpK at h ⊢
 rcases h with (⟨t,x,ho,hs,h1⟩|⟨t,e,i,j,m,ho,hi,hd,hj,hb,h1⟩|⟨t,e,i,j,m,ho,hi,hd,hj,hb,h1⟩|⟨t,e,n,parts,i,j,out,ho,hi,hd,hj,hl,hb,h1⟩)|(⟨k,t,i,ho,hi,hs,h1⟩|⟨x,v,t,tx,out,ho,hh,hs,h1⟩|⟨t,e,n,parts,i,j,out,ho,hn,hi,hd,hj,hl,hb,h1⟩)|h
 ·exact .inl (.inl ⟨t,x,ho,hs,hk _ _ h1⟩)
 ·exact .inl (.inr (.inl ⟨t,e,i,j,m,ho,hi,hd,hj,hb,hk _ _ h1⟩))
 ·exact .inl (.inr (.inr (.inl ⟨t,e,i,j,m,ho,hi,hd,hj,hb,hk _ _ h1⟩)))
 ·exact .inl (.inr (.inr (.inr ⟨t,e,n,parts,i,j,out,ho,hi,hd,hj,hl,hb,hk _ _ h1⟩)))
 ·exact .inr (.inl (.inl ⟨k,t,i,ho,hi,hs,hk _ _ h1⟩))
 ·exact .inr (.inl (.inr (.inl ⟨x,v,t,tx,out,ho,hh,hs,hk _ _ h1⟩)))
 ·exact .inr (.inl (.inr (.inr ⟨t,e,n,parts,i,j,out,ho,hn,hi,hd,hj,hl,hb,hk _ _ h1⟩)))
 ·refine .inr (.inr ?_)
  split at h
  ·split at h
   ·obtain ⟨r,S',hx,h1⟩:=h
    exact ⟨r,S',hx,hk _ _ h1⟩
   ·obtain ⟨r,S',hx,h1⟩:=h
    exact ⟨r,S',hx,hk _ _ h1⟩
   ·exact h.elim
  ·split at h
   ·exact ⟨h.1,hk _ _ h.2⟩
   ·exact h.elim
theorem aL_mono {m:Md}:∀ {ops:List LO} {Q Q':Fr→St→Prop} {fr:Fr} {S:St},(∀ fr S,Q fr S→Q' fr S)→aL C m ops Q fr S→aL C m ops Q' fr S
 |[],_,_,_,_,hq,h=>hq _ _ h
 |o::rest,Q,Q',fr,S,hq,h=>by
  unfold aL at h ⊢
  split at h
  ·exact h.elim
  ·split at h
   ·next e=>rw [if_pos e];exact aOpK_mono (fun r S' ⟨a,b⟩=>⟨a,aL_mono hq b⟩) h
   ·next e=>rw [if_neg e];exact aL_mono hq h
theorem aNext_mono {it:AVal} {S:St} {K K':AVal→St→Prop} (hk:∀ r S,K r S→K' r S) (h:aNext it S K):aNext it S K':=by
 unfold aNext at h ⊢
 split at h
 ·split at h
  ·exact hk _ _ h
  ·split at h
   ·exact ⟨h.1,fun x=>hk _ _ (h.2.1 x),fun e he hn=>hk _ _ (h.2.2 e he hn)⟩
   ·exact h.elim
  ·exact h.elim
 ·exact h.elim
theorem thenQ_mono {K K':Fr→St→Prop} {Q Q':Post} (hk:∀ fr S,K fr S→K' fr S) (hq:∀ e fr S,Q e fr S→Q' e fr S):∀ e fr S,thenQ K Q e fr S→thenQ K' Q' e fr S
 |.normal,_,_,h=>hk _ _ h
 |.exit _,_,_,h=>hq _ _ _ h
 |.goto _,_,_,h=>hq _ _ _ h
 |.ret,_,_,h=>hq _ _ _ h
 |.panic _,_,_,h=>hq _ _ _ h
 |.outgrown,_,_,h=>hq _ _ _ h
theorem aC_mono {N:Nat}:∀ {c:LC} {Q Q':Post} {fr:Fr} {S:St},(∀ e fr S,Q e fr S→Q' e fr S)→aC C N c Q fr S→aC C N c Q' fr S:=by
 intro c
 induction c with
 |skip=>intro Q Q' fr S hq h;exact hq _ _ _ h
 |reg id ops =>
  intro Q Q' fr S hq h
  unfold aC at h ⊢
  try dsimp only at h ⊢
  split at h
  ·obtain ⟨B,H,n,h⟩:=h
   exact ⟨B,H,n,aL_mono (hq _) h⟩
  ·exact aL_mono (hq _) h
 |nxt d it ops =>
  intro Q Q' fr S hq h
  unfold aC at h ⊢
  exact aNext_mono (fun r S' ⟨a,b⟩=>⟨a,aL_mono (hq _) b⟩) h
 |rangeFn f ps asg body =>
  intro Q Q' fr S hq h
  unfold aC at h ⊢
  try dsimp only at h ⊢
  split at h
  ·obtain ⟨tag,r,S2,fr',N',ps',asg',body',st,pend,tag',h1,h2,h3,h4⟩:=h
   refine ⟨tag,r,S2,fr',N',ps',asg',body',st,pend,tag',h1,h2,h3,?_⟩
   unfold pendQ at h4 ⊢
   split at h4
   ·exact hq _ _ _ h4
   ·split at h4
    ·exact hq _ _ _ h4
    ·exact hq _ _ _ h4
    ·exact h4.elim
  ·exact h.elim
 |seq a b iha ihb =>
  intro Q Q' fr S hq h
  unfold aC at h ⊢
  exact iha (thenQ_mono (fun fr S=>ihb hq) hq) h
 |cond c a b iha ihb =>
  intro Q Q' fr S hq h
  unfold aC at h ⊢
  try dsimp only at h ⊢
  split at h
  ·split at h
   ·next e=>rw [if_pos e];exact iha hq h
   ·next e=>rw [if_neg e];exact ihb hq h
  ·exact h.elim
 |block id a iha =>
  intro Q Q' fr S hq h
  unfold aC at h ⊢
  refine iha (fun e fr S h=>?_) h
  cases e with
  |exit i =>
   unfold blockQ at h ⊢
   try dsimp only at h ⊢
   split at h
   ·next e=>rw [if_pos e];exact hq _ _ _ h
   ·next e=>rw [if_neg e];exact hq _ _ _ h
  |_=>exact hq _ _ _ h
 |loop a _ =>
  intro Q Q' fr S hq h
  unfold aC at h ⊢
  exact fun c hl hok=>(h c hl hok).mono hq
 |exit id=>intro Q Q' fr S hq h;exact hq _ _ _ h
 |ret=>intro Q Q' fr S hq h;exact hq _ _ _ h
 |scope a iha =>
  intro Q Q' fr S hq h
  unfold aC at h ⊢
  refine iha (fun e fr S h=>?_) h
  cases e with
  |goto _=>exact h
  |_=>exact hq _ _ _ h
 |other c =>
  intro Q Q' fr S hq h
  exact AWp.mono h hq
theorem aC_cut {N:Nat} {c:LC} {K:Fr→St→Prop} {Q:Post} {fr:Fr} {S:St} (M:Fr→St→Prop) (h:aC C N c (thenQ M Q) fr S) (hk:∀ fr S,M fr S→K fr S):aC C N c (thenQ K Q) fr S :=
 aC_mono (thenQ_mono hk fun _ _ _ h=>h) h
end
end Go.Am
