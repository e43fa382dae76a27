/- The abstract layer: a range over a map whose rounds do not lean on each other, in whichever order they come. -/
import Derived.Test.YteemcehaekffeaaGreatAmExec
import Derived.Test.YteemcehaekffeaaGreatAmMarks
import Derived.LoopNIn
set_option linter.unusedVariables false
set_option linter.unusedSimpArgs false
namespace Go.Am
open Go
noncomputable section
structure Told (E:Env) (k:Nat) (x y:ABox):Prop where
 was:E.S[k]? = some x
 xg:x.isGrow=false
 yg:y.isGrow=false
 xr:x.rd=false
 yr:y.rd=false
section
variable {G:Nat→Option AVal} {E:Env} {k:Nat} {x y:ABox}
end
theorem MX.ne {ps:List (AVal × AVal)} {es:Ents} {c:Nat} (h:MX ps es c) {i j:Nat} (hi:i<es.length) (hj:j<es.length) (hij:i<j):es[i].2.2≠es[j].2.2:=by
 have hnd:=h.nodup
 rw [List.nodup_iff_pairwise_ne,List.pairwise_map,List.pairwise_iff_getElem] at hnd
 exact hnd i j hi hj hij
theorem belM_of {n:Nat}:∀ {es:Ents},(∀ e∈es,bel n e.1=true∧bel n e.2.1=true)→belM n es=true
 |[],_=>rfl
 |(k,v,_)::es,h=>by
  have h1:=h _ (List.mem_cons_self ..)
  simp only [belM,Bool.and_eq_true]
  exact ⟨h1,belM_of fun e he=>h e (List.mem_cons_of_mem _ he)⟩
theorem MX.bel {n:Nat} {ps:List (AVal × AVal)} {es:Ents} {c:Nat} (h:MX ps es c) (hb:belP n ps=true):belM n es=true :=
 belM_of fun e he=>belP_get hb (e.1,e.2.1) (h.perm.mem_iff.1 (List.mem_map.2 ⟨e,he,rfl⟩))
structure Froze (G:Nat→Option AVal) (k mi:Nat) (it:ABox) (ps:List (AVal × AVal)) (es:Ents) (c:Nat) (E:Env):Prop where
 wf:Wf G E
 atk:E.S[k]? = some (.frz none)
 atm:E.S[mi]? = some (.frz (some ps))
 mp:mpOk E mi es c
 itk:∃ b:Nat,E.mu[k]? = some (some b)∧entryOk E k it
theorem Froze.ext {G:Nat→Option AVal} {k mi c since clk:Nat} {sn:List Nat} {ps:List (AVal × AVal)} {es:Ents} {E E':Env} (h:Froze G k mi (.iter (some mi) since sn clk) ps es c E) (hx:Ext E E') (hE:Wf G E') :
  Froze G k mi (.iter (some mi) since sn clk) ps es c E':=by
 obtain ⟨b,m1,q⟩:=h.itk
 obtain ⟨f1,f2⟩:=hx.frz k b none h.atk m1
 have q2:=h.mp
 obtain ⟨b2,ms,n1,n2,n3,n4⟩:=q2
 obtain ⟨f3,f4⟩:=hx.frz mi b2 _ h.atm n1
 have mk:=(hx.box k _ h.atk rfl).1
 have mm:=(hx.box mi _ h.atm rfl).1
 refine ⟨hE,f1,f3,entryOk.keep (x:=.mp es c) h.wf hx h.mp mm fun b' hb'=>?_,b,mk.trans m1,entryOk.keep h.wf hx q mk fun b' hb'=>?_⟩
 ·rw [n1] at hb'
  injection hb' with hb'
  injection hb' with hb'
  rw [← hb'];exact f4
 ·rw [m1] at hb'
  injection hb' with hb'
  injection hb' with hb'
  rw [← hb'];exact f2
theorem Froze.cut {G:Nat→Option AVal} (hG:∀ g v,G g=some v→Closed v) {k mi c since clk n:Nat} {sn:List Nat} {ps:List (AVal × AVal)} {es:Ents} {E:Env} (h:Froze G k mi (.iter (some mi) since sn clk) ps es c E) (hx:MX ps es c) (hk:k<n) (hm:mi<n)
  (hb:belS n (E.S.take n)=true) (hp:belP n ps=true):Froze G k mi (.iter (some mi) since sn clk) ps es c (E.cut n):=by
 obtain ⟨b,m1,q⟩:=h.itk
 exact ⟨env_cut hG h.wf hb,(cut_S hk).trans h.atk,(cut_S hm).trans h.atm,entryOk.cut (x:=.mp es c) h.wf hm h.mp (hx.bel hp),b,(cut_mu hk).trans m1,entryOk.cut h.wf hk q (by
  show Nat.blt mi n=true
  exact blt_iff.2 hm)⟩
theorem RF.cut {G:Nat→Option AVal} {E:Env} {n N:Nat} {f:Nat→AVal} {a:Act} (hE:Wf G E) (hr:RF E N f a) (hb:∀ t,bel n (f t)=true):RF (E.cut n) N f a:=by
 refine ⟨hr.size,?_,fun t=>(hr.slot t).cut hE (hb t)⟩
 obtain ⟨h0,rs,h1,h2,h3⟩:=hr.df
 exact ⟨h0,rs,h1,h2,fun r hr=>⟨(h3 r hr).1,cut_free (h3 r hr).2.1,(h3 r hr).2.2⟩⟩
def mapZ (ps:List (AVal × AVal)) (clock:Nat) (z:ABox):Prop:=z = .mpx ps clock∨∃ es,z = .mp es clock∧MX ps es clock
theorem mapZ.grow {ps:List (AVal × AVal)} {c:Nat} {z:ABox} (h:mapZ ps c z):z.isGrow=false∧∀ o,z ≠ .frz o:=by
 rcases h with rfl|⟨es,rfl,_⟩<;>exact ⟨rfl,nofun⟩
structure AnyOk (C:Cx) (N out nx:Nat) (rops aops:Array Oper) (d:Option Nat) (it it2 more:Operand) (rrest arest:List Oper) (p:Oper) (code:Code)
  (k mi since last clock:Nat) (z:ABox) (ps:List (AVal × AVal)) (fr0 frD:Fr) (S Sf:St) (cont:AVal × AVal→Bool) (Res:Option (XE × Fr × St)):Prop where
 h1:nextOf false rops.toList=some (d,it,rrest)
 hdn:∀ k,d=some k→k<N
 h2:aops.toList=p::arest
 hp:p.op = .entry it2
 hpg:p.guard=none
 hpd:∀ k,p.dst=some k→k<N
 hit:aEval C fr0.get it = .ptr k 0
 hk:S[k]? = some (.iter (some mi) since [] last)
 hm:S[mi]? = some z
 hz:mapZ ps clock z
 hsc:clock≤since
 hSf:Sf=(S.set k (.frz none)).set mi (.frz (some ps))
 hbel:belS S.length Sf=true
 hbp:belP S.length ps=true
 hbf:∀ t,bel S.length (fr0.get t)=true
 hD:ARun C rops N none rrest (upd fr0.get d (.tup [.bool false])) Sf frD.get Sf
 hDc:aEval C frD.get more = .bool false
 hres:Res=none∨∃ e∈ps,cont e=false
 hround:∀ e∈ps,∃ (fr1 fr2:Fr) (S2:St) (x:XE) (fr3:Fr) (S3:St),
  ARun C rops N none rrest (upd fr0.get d (.tup [.bool true,e.1,e.2])) Sf fr1.get Sf∧aEval C fr1.get more = .bool true∧aEval C fr1.get it2 = .ptr k 0 ∧
  ARun C aops N none arest (upd fr1.get p.dst (.tup [e.1,e.2])) Sf fr2.get S2∧AWp C N code (fun e2 f2 T2=>e2=x.ex∧f2=fr3∧T2=S3) fr2 S2 ∧
  ((cont e=true∧(x = .nrm∨x = .ext nx)∧S3.take S.length=Sf∧Sub fr3 fr0)∨(cont e=false∧x ≠ .nrm∧x ≠ .ext nx∧Res=some (x,fr3,S3)))
end
end Go.Am
