/- View chapter: cells of numbers, pages, vCPUs; whether they are the same. -/
import Derived.Test.YteemcehaekffeaaGreatP01
set_option linter.unusedVariables false
set_option linter.unusedSimpArgs false
namespace Go.Am
open Go Go.Proofs
set_option maxHeartbeats 8000000
set_option maxRecDepth 100000
def wl (ws:List Nat):List AVal:=ws.map fun (w:Nat)=>.int .u64 ((w:Nat):Int)
@[simp] theorem length_wl (ws:List Nat):(wl ws).length=ws.length:=by simp [wl]
@[simp] theorem closed_wl (ws:List Nat):(∀ x∈wl ws,Closed x)↔True:=⟨fun _=>trivial,fun _ x hx=>by obtain ⟨b,_,rfl⟩:=List.mem_map.1 hx;simp⟩
theorem bels_wl (n:Nat) (ws:List Nat):bels n (wl ws)=true:=bels_iff.2 fun x hx=>by obtain ⟨b,_,rfl⟩:=List.mem_map.1 hx;rfl
theorem one_wl (l:List Nat):(∀ c∈wl l,c.one=true)↔True:=⟨fun _=>trivial,fun _ c hc=>by obtain ⟨b,_,rfl⟩:=List.mem_map.1 hc;rfl⟩
attribute [go_sem] length_wl one_wl
theorem aeqs_cons (x y:AVal) (a b:List AVal):aeqs (x::a) (y::b)=(aeq x y&&aeqs a b):=rfl
theorem aeq_int (k q:IntKind) (x y:Int):aeq (.int k x) (.int q y)=(x==y):=rfl
theorem skbs_cons (x y:AVal) (a b:List AVal):skbs (x::a) (y::b)=(skb x y&&skbs a b):=rfl
theorem skb_int (k:IntKind) (a b:Int):skb (.int k a) (.int k b)=true:=by simp [skb]
theorem skbs_app:∀ {a b c d:List AVal},skbs a b=true→skbs c d=true→skbs (a++c) (b++d)=true
 |[],[],_,_,_,h=>h
 |[],_::_,_,_,h,_=>by cases h
 |_::_,[],_,_,h,_=>by cases h
 |x::a,y::b,c,d,h,k=>by
  rw [skbs_cons,Bool.and_eq_true] at h
  rw [List.cons_append,List.cons_append,skbs_cons,h.1,skbs_app h.2 k]
  rfl
theorem aeqs_app:∀ {a b c d:List AVal},a.length=b.length→aeqs (a++c) (b++d)=(aeqs a b&&aeqs c d)
 |[],[],_,_,_=>by simp [aeqs]
 |[],_::_,_,_,h=>by cases h
 |_::_,[],_,_,h=>by cases h
 |x::a,y::b,c,d,h=>by
  rw [List.cons_append,List.cons_append,aeqs_cons,aeqs_cons,aeqs_app (by simpa using h),Bool.and_assoc]
theorem skbs_by:∀ {a b:List UInt8},a.length=b.length→skbs (bl a) (bl b)=true
 |[],[],_=>rfl
 |[],_::_,h=>by cases h
 |_::_,[],h=>by cases h
 |x::a,y::b,h=>by
  show skbs (.int .u8 x.toNat::bl a) (.int .u8 y.toNat::bl b)=true
  rw [skbs_cons,skb_int,skbs_by (by simpa using h)];rfl
theorem aeqs_by:∀ {a b:List UInt8},a.length=b.length→aeqs (bl a) (bl b)=decide (a=b)
 |[],[],_=>rfl
 |[],_::_,h=>by cases h
 |_::_,[],h=>by cases h
 |x::a,y::b,h=>by
  show aeqs (.int .u8 x.toNat::bl a) (.int .u8 y.toNat::bl b)=_
  rw [aeqs_cons,aeq_int,aeqs_by (by simpa using h)]
  by_cases h1:x=y
  ·subst h1;simp
  ·have:¬ ((x.toNat:Int)=(y.toNat:Int)):=fun e=>h1 (UInt8.toNat_inj.1 (by omega))
   simp [h1,this]
structure Pg where
 n:Int
 b:List UInt8
deriving DecidableEq
def Pg.Ok (p:Pg):Prop:=p.b.length=128
structure Rc where
 g:Int
 rd:Int
 inst:Nat
 regs:List Nat
 pc:Nat
 run:Bool
 w:Int
deriving DecidableEq
def Rc.Ok (r:Rc):Prop:=r.regs.length=8
end Go.Am
