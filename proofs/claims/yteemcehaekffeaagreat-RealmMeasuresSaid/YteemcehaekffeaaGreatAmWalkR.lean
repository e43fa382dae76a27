/- The abstract layer: rows that are written, in drawn regions. -/
import Derived.Test.YteemcehaekffeaaGreatAmWd
import Derived.Test.YteemcehaekffeaaGreatAmWalkB
set_option linter.unusedVariables false
set_option linter.unusedSimpArgs false
namespace Go.Am
open Go
noncomputable section
open Classical
variable {C:Cx}
theorem aLB_appR {U:UL} {B:List (Option Nat × Nat)} {d:Option Nat} {x v:Operand} {t tx:TypeId} {gd:Option (Option Nat × Bool)} {rest:List LO} {Q:Fr→St→Prop} {fr:Fr} {S:St} {sd:Prop} {r:AVal} {S':St} {fr':Fr} {av aw:AVal}
  (hg:wantL gd fr=some true) (hx:aEval C fr.get x=av) (hv:aEval C fr.get v=aw) (h:aAppR C S t tx av aw=some ⟨sd,r,S'⟩) (hf:fr.put d r=fr')
  (hk:∀ e∈B,(e.1,d)∈U→S'[e.2]? = S[e.2]?) (k:aL C (some (U,B,[])) rest Q fr' S') (hs:sd) :
  aL C (some (U,B,[])) (⟨d,.call { callee:=.builtin .append,args := #[x,v],argTypes := #[t,tx] },gd⟩::rest) Q fr S:=by
 subst hf hx hv
 have hb:BOk C (some (U,B,[])) (bare (.call { callee:=.builtin .append,args := #[x,v],argTypes := #[t,tx] }) d) fr.get S r S' :=
  bok0 (o:=bare (.call { callee:=.builtin .append,args := #[x,v],argTypes := #[t,tx] }) d) (.appR x v t tx ⟨sd,r,S'⟩ rfl (.inl h) hs) (by simp [bare,cls,clsB]) (fun b hb=>by cases hb) hk rfl
 simp only [aL,hg,if_true,aOpK]
 exact .inr (.inl (.inr (.inl ⟨x,v,t,tx,_,rfl,.inl h,hs,hb,k⟩)))
theorem aLB_appN {U:UL} {B:List (Option Nat × Nat)} {d:Option Nat} {x v:Operand} {t tx:TypeId} {gd:Option (Option Nat × Bool)} {rest:List LO} {Q:Fr→St→Prop} {fr:Fr} {S:St} {sd:Prop} {r:AVal} {S':St} {fr':Fr} {av aw:AVal}
  (hg:wantL gd fr=some true) (hx:aEval C fr.get x=av) (hv:aEval C fr.get v=aw) (h:aAppN C S t tx av aw=some ⟨sd,r,S'⟩) (hf:fr.put d r=fr')
  (hk:∀ e∈B,(e.1,d)∈U→S'[e.2]? = S[e.2]?) (k:aL C (some (U,B,[])) rest Q fr' S') (hs:sd) :
  aL C (some (U,B,[])) (⟨d,.call { callee:=.builtin .append,args := #[x,v],argTypes := #[t,tx] },gd⟩::rest) Q fr S:=by
 subst hf hx hv
 have hb:BOk C (some (U,B,[])) (bare (.call { callee:=.builtin .append,args := #[x,v],argTypes := #[t,tx] }) d) fr.get S r S' :=
  bok0 (o:=bare (.call { callee:=.builtin .append,args := #[x,v],argTypes := #[t,tx] }) d) (.appR x v t tx ⟨sd,r,S'⟩ rfl (.inr h) hs) (by simp [bare,cls,clsB]) (fun b hb=>by cases hb) hk rfl
 simp only [aL,hg,if_true,aOpK]
 exact .inr (.inl (.inr (.inl ⟨x,v,t,tx,_,rfl,.inr h,hs,hb,k⟩)))
end
end Go.Am
