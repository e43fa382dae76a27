/- RealmMeasures: what a log's records come to; Get. -/
import Derived.Test.YteemcehaekffeaaGreatO44
set_option linter.unusedVariables false
set_option linter.unusedSimpArgs false
namespace Go.Am
open Go Go.Proofs
set_option maxHeartbeats 8000000
set_option maxRecDepth 100000
section
attribute [local irreducible] aC aL thenQ blockQ scopeQ ALoop AWp
def mAt (L:List It):List Rcd→Nat→List UInt8→List UInt8
 |_,0,m=>m
 |[],_+1,m=>m
 |r::rest,k+1,m=>mAt L rest k (askD [] L (msQ m r))
theorem mAt_len {L:List It}:∀ {log:List Rcd} {m0 m:List UInt8},Chain L m0 log m→mAt L log log.length m0=m
 |[],_,_,h=>by
  have h:_=_:=h
  exact h.symm
 |r::rest,m0,m,⟨_,_,h⟩=>by
  show mAt L rest rest.length (askD [] L (msQ m0 r))=m
  exact mAt_len h
theorem mAt_step {L:List It}:∀ {log:List Rcd} {m0 m:List UInt8},Chain L m0 log m→∀ {k:Nat} {r:Rcd},log[k]? = some r→(∃ p,findQ L (msQ (mAt L log k m0) r)=some p)∧RcdI r∧mAt L log (k+1) m0=askD [] L (msQ (mAt L log k m0) r)
 |[],_,_,_,_,_,h=>by simp at h
 |x::rest,m0,m,⟨h1,h2,h3⟩,0,r,h=>by
  have:x=r:=by simpa using h
  subst this
  refine ⟨h1,h2,?_⟩
  show mAt L rest 0 _=_
  cases rest<;>rfl
 |x::rest,m0,m,⟨_,_,h3⟩,k+1,r,h=>by
  have:=mAt_step h3 (k:=k) (r:=r) (by simpa using h)
  exact this
theorem mAt_32 {n:Nat} {S:St} {L:List It} {last:Nat} {rs:Rs} {c b:Nat} {all:AVal} (h:Sim n S L last rs c b all):∀ {log:List Rcd} {k:Nat} {m0:List UInt8},m0.length=32→(mAt L log k m0).length=32
 |_,0,_,hm=>by
  unfold mAt
  exact hm
 |[],_+1,_,hm=>hm
 |r::rest,k+1,m0,hm=>by
  show (mAt L rest k (askD [] L (msQ m0 r))).length=32
  exact mAt_32 h (log:=rest) (k:=k) (length_raskD h.rf.orc _)
section
variable {n:Nat} {S:St} {L:List It} {last:Nat} {rs:Rs} {c b:Nat} {all:AVal}
theorem meas_any (h:Sim n S L last rs c b all) (hn:n≤100) {m:List UInt8} (hm:m.length=32) {r:Rcd} (hr:RcdI r) (hp:∃ p,findQ L (msQ m r)=some p) :
  ACall cx 12 [.ptr 10 0,.agg (bl m),.agg (rdC r)] S (.agg (bl (askD [] L (msQ m r)))) S:=by
 have hl:L.length≤900000:=by have:=h.ll;omega
 obtain ⟨p,hp⟩:=hp
 have hS:raskS S 9 12 1 L (msQ m r)=S:=by unfold raskS;rw [hp]
 rcases hr.k with hk|⟨hk,hp0,hp1⟩|hk
 ·have e:msQ m r=dgQ 1 r.v:=by unfold msQ;rw [if_pos hk]
  have:=ref_meas1 h.rf hl h.ld hm hr.ok hk
  rw [e] at hS
  rw [hS] at this
  rw [e]
  exact this
 ·have e:msQ m r=dgQ 2 (m++(putl r.pg.toNat 8++r.dt)):=by unfold msQ;rw [if_neg (by omega),if_pos hk]
  have:=ref_meas2 h.rf hl h.ld hm hr.ok hk (pg:=r.pg.toNat) (by omega) (by omega)
  rw [e] at hS
  rw [hS] at this
  rw [e]
  exact this
 ·have e:msQ m r=dgQ 3 (m++recG r.rp):=by unfold msQ;rw [if_neg (by omega),if_neg (by omega)]
  have:=ref_meas3 h.rf hl h.ld hm hr.ok hk
  rw [e] at hS
  rw [hS] at this
  rw [e]
  exact this
theorem get_any (h:Sim n S L last rs c b all) (hn:n≤100) (rd:Int):∃ (W:List AVal) (ew stw:Int) (mw:List UInt8),(∀ R:St,ACall cx 8 [.ptr 8 0,.int .i64 rd] (S++R) (.tup [.agg W,.int .i64 ew]) (S++R))∧W.length=103∧(∀ c∈W,c.one=true) ∧
  (W.drop 1).take 1=[.int .i64 stw]∧(W.drop 4).take 32=bl mw∧mw.length=32∧(ew=0∧stw≠1→∃ p e,at? rs rd=some p∧rs[p]? = some e∧e.2.1.st≠1∧e.2.1.meas=mw):=by
 rcases hr:at? rs rd with _|p
 ·exact ⟨zRmC,6,0,zq,fun R=>realm_get_none (h.rz.rms.more R) hr,rfl,zRm_one,rfl,rfl,rfl,fun k=>absurd k.1 (by decide)⟩
 ·obtain ⟨e,he,_,_⟩:=at_some hr
  have hi:=h.ri e (List.mem_of_getElem? he)
  have ho:=h.rz.rms.ok e (List.mem_of_getElem? he)
  have hlg:=hi.lg
  exact ⟨rmC e.2.1,0,e.2.1.st,e.2.1.meas,fun R=>realm_get (h.rz.rms.more R) hr he (by omega),length_rmC ho,rm_one _,rm_2 _,rm_5 ho,ho.m,fun k=>⟨p,e,rfl,he,k.2,rfl⟩⟩
end
end
end Go.Am
