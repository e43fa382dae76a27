/- RealmCounts: the law. (nofull) -/
import Derived.Test.YteemcehaekffeaaGreatO43
import Derived.Test.YteemcehaekffeaaGreatAmMapW
set_option linter.unusedVariables false
set_option linter.unusedSimpArgs false
namespace Go.Am
open Go Go.Proofs
set_option maxHeartbeats 8000000
set_option maxRecDepth 100000
section
attribute [local irreducible] aC aL thenQ blockQ scopeQ ALoop AWp
theorem aStep_mkMap (C:Cx) (g:Nat→AVal) (S:St) (t:TypeId):aStep C (.makeMap t none) g S=some ⟨True,.map S.length,S++[.mp [] 0]⟩:=rfl
attribute [go_sem] aStep_mkMap
structure CS where
 k:Nat
 S:St
 L:List It
 last:Nat
 rs:Rs
 c:Nat
 b:Nat
 all:AVal
 cn:Cn
 cc:Nat
structure CI (l:List Act) (s:CS):Prop where
 k:s.k≤l.length
 sim:Sim s.k s.S s.L s.last s.rs s.c s.b s.all
 p13:s.S[13]? = some (.cells [.ptr 3 0,.ptr 8 0,.ptr 10 0] 28)
 p14:s.S[14]? = some (.mp (cnE s.cn) s.cc)
 ct:∀ e∈s.rs,cnt s.cn e.2.1.inst=e.2.1.ctr
 nw:∀ i,s.last<i→cnt s.cn i=0
theorem Sim.setO {n:Nat} {S:St} {L:List It} {last:Nat} {rs:Rs} {c b:Nat} {all:AVal} (h:Sim n S L last rs c b all) {i:Nat} {x:ABox} (hi:13≤i) (hx:S[i]? = some x) (hr:x.rd=false) (y:ABox):Sim n (S.set i y) L last rs c b all:=by
 have k:∀ j,j<13→(S.set i y)[j]? = S[j]?:=fun j hj=>List.getElem?_set_ne (by omega)
 refine ⟨⟨h.rz.orc.same (k 3 (by decide)) (k 2 (by decide)) (k 11 (by decide)),⟨(k 8 (by decide)).trans h.rz.rms.bx,(k 7 (by decide)).trans h.rz.rms.mp,h.rz.rms.ok⟩,h.rz.ak⟩,h.rf.same (k 9 (by decide)) (k 12 (by decide)) (k 10 (by decide)) (fun hn=>List.getElem?_set_ne (fun e=>?_)),h.ld,h.ll,h.rl,h.la,h.ri,h.nd,h.ni⟩
 subst e
 rw [(h.rf.row hn).2] at hx
 rw [← Option.some.inj hx] at hr
 cases hr
theorem begS_len:begS.length=13:=rfl
theorem CI.next {l:List Act} {s:CS} (h:CI l s) (hk:s.k<l.length) {S':St} {L':List It} {last':Nat} {rs':Rs} {c' b':Nat} {all':AVal} (hs:Sim (s.k+1) S' L' last' rs' c' b' all') (f:Far s.S S') (hc:Cts s.last s.rs rs' last'):CI l ⟨s.k+1,S',L',last',rs',c',b',all',s.cn,s.cc⟩ :=
 ⟨hk,hs,f.2 13 _ (Nat.le_refl _) h.p13 rfl,f.2 14 _ (by decide) h.p14 rfl,fun e he=>by
  rcases hc.2 e he with ⟨e0,h0,h1,h2⟩|⟨h1,h2⟩
  ·rw [h1,h2];exact h.ct e0 h0
  ·rw [h2];exact h.nw _ h1,fun i hi=>h.nw i (by have:=hc.1;show s.last<i;have:last'<i:=hi;omega)⟩
end
end Go.Am
