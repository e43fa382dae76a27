/- Numbers and bytes: wire's get, Put, the document's; Same. -/
import Derived.Test.YteemcehaekffeaaGreatTryzLq
import Derived.Test.YteemcehaekffeaaGreatAmSimp
import Derived.Test.YteemcehaekffeaaGreatAmYield
import Derived.Test.YteemcehaekffeaaGreatAmWalkB
import Derived.Test.YteemcehaekffeaaGreatAmFreshZ
set_option linter.unusedVariables false
set_option linter.unusedSimpArgs false
namespace Go.Am
open Go Go.Proofs
set_option maxHeartbeats 4000000
set_option maxRecDepth 100000
section
attribute [local irreducible] aC aL thenQ blockQ scopeQ ALoop AWp
theorem foldMM_two (f:Int→Int→Int) (k:IntKind) (a b:Int):foldMM f [.int k a,.int k b]=some (.int k (f a b)):=rfl
theorem minI_l {a b:Int} (h:a≤b):minI a b=a:=by unfold minI;rw [if_neg (by omega)]
theorem minI_r {a b:Int} (h:b≤a):minI a b=b:=by
 unfold minI
 split
 ·rfl
 ·omega
attribute [go_sem] foldMM_two minI_l minI_r
def putl (n:Nat) (size:Nat):List UInt8:=(List.range size).map fun k=>UInt8.ofNat (n/256 ^ k%256)
theorem putl_succ (n k:Nat):putl n (k+1)=putl n k++[UInt8.ofNat (n/256 ^ k%256)]:=by simp [putl,List.range_succ]
@[simp] theorem putl_length (n k:Nat):(putl n k).length=k:=by simp [putl]
attribute [go_sem] putl_length
theorem ofNat_toNat8 (m:Nat) (h:m<256):(UInt8.ofNat m).toNat=m:=by simp [UInt8.toNat_ofNat'];omega
theorem ref_put (n size:Nat) (hn:n<18446744073709551616) (hs:size≤1048576):APure cx 96 [.int .u64 n,.int .i64 size] (.sl 1 (decide (size=0)) (bl (putl n size)) .any):=by
 refine oP lq96 ?_
 refine st True.intro ?_
 ·refine loop_rule (cxOk.wp _ _) (σ:=Nat) (fun k=>[(5,.sl 1 (decide (k=0)) (bl (putl n k)) (.grow 0)),(6,.int .i64 k),(0,.int .u64 (n/256 ^ k:Nat)),(1,.int .i64 size)])
   (fun k=>[.grow k 1 5]) (fun k=>size-k) (fun k=>k≤size) 0 (GStep.nil 5 1 5 rfl) ⟨Nat.zero_le _,Sub.of_all (by simp [Fr.get,putl,bl]),by simp⟩ ?_
  intro k hk
  have hd:n/256 ^ k<18446744073709551616:=Nat.lt_of_le_of_lt (Nat.div_le_self _ _) hn
  have e0:((n/256 ^ k:Nat):Int)%256=(((UInt8.ofNat (n/256 ^ k%256)).toNat:Nat):Int):=by rw [ofNat_toNat8 _ (Nat.mod_lt _ (by decide))];omega
  have e1:((n/256 ^ k:Nat):Int)/256=((n/256 ^ (k+1):Nat):Int):=by rw [Nat.pow_succ,← Nat.div_div_eq_div_mul];omega
  generalize hm:n/256 ^ k=m at *
  have e2:putl n (k+1)=putl n k++[UInt8.ofNat (m%256)]:=by rw [putl_succ,hm]
  by_cases hlt:k<size
  ·have F:=True.intro
   repeat' (first|refine st F ?_|(refine cp F ?_ ?_<;>intro h))
   all_goals try exact cl F
   all_goals first|exact not_false|(refine ⟨k+1,by omega,Sub.of_all ?_,by simp,by omega⟩;simp (disch:=first|omega|(simp only [go_sem];omega)) only [go_sem,seval,reduceCtorEq,e0,e1,e2,append_bl1];simp)
  ·have hk2:k=size:=by omega
   subst hk2
   have F:=True.intro
   repeat' (first|refine st F ?_|(refine cp F ?_ ?_<;>intro h)|refine zT F ?_ ?_)
   all_goals try exact cl True.intro
   all_goals try (simp (disch:=first|omega|(simp only [go_sem];omega)) only [go_sem,seval,reduceCtorEq])
   all_goals try simp
 all_goals try exact cl True.intro
theorem pow_256 (k:Nat):(2:Nat) ^ (8*k)=256 ^ k:=by rw [Nat.pow_mul]
theorem shr_eq (n k:Nat):Int.fdiv (n:Int) (2 ^ (8*k))=((n/256 ^ k:Nat):Int):=by
 rw [Int.fdiv_eq_ediv_of_nonneg _ (Int.pow_nonneg (by decide)),← pow_256 k]
 rw [Int.natCast_ediv]
 congr 1
theorem wire_put (n size:Nat) (hs:1≤size) (hs8:size≤8) (hn:n<256 ^ size):APure cx 66 [.int .u64 n,.int .i64 size] (.tup [.sl 1 false (bl (putl n size)) .any,.int .i64 0]):=by
 have hn64:n<18446744073709551616:=by
  have h1:(256:Nat) ^ size≤256 ^ 8:=Nat.pow_le_pow_right (by decide) hs8
  have e8:(256:Nat) ^ 8=18446744073709551616:=by decide
  omega
 have e0:Int.fdiv (n:Int) (2 ^ (8*size))=0:=by rw [shr_eq,Nat.div_eq_of_lt hn];rfl
 refine oP lq66 ?_
 have F:=True.intro
 repeat' (first|refine st F ?_|(refine cp F ?_ ?_<;>intro h)|refine zT F ?_ ?_|refine mLT F ?_ ?_|refine mUT F ?_ ?_|refine mDT F ?_ ?_|(refine gP F ?_ ?_<;>(intro h;first|(exfalso;omega)|(simp only [h,decide_true,decide_false,not_true,not_false_iff])))|(refine gN F ?_ ?_<;>(intro h;first|(exfalso;omega)|(simp only [h,decide_true,decide_false,not_true,not_false_iff]))))
 all_goals try exact cl F
 all_goals
  refine loop_rule (cxOk.wp _ _) (σ:=Nat) (fun k=>[(6,.sl 1 (decide (k=0)) (bl (putl n k)) (.grow 0)),(26,.int .i64 k),(0,.int .u64 n),(25,.int .i64 size)])
   (fun k=>[.grow k 1 5]) (fun k=>size-k) (fun k=>k≤size) 0 (GStep.nil 6 1 5 rfl) ⟨Nat.zero_le _,Sub.of_all (by simp [Fr.get,putl,bl]),by simp⟩ ?_
  intro k hk
  have e1:IntKind.u8.wrap (Int.fdiv (n:Int) (2 ^ (8*k)))=(((UInt8.ofNat (n/256 ^ k%256)).toNat:Nat):Int):=by
   rw [shr_eq,ofNat_toNat8 _ (Nat.mod_lt _ (by decide)),IntKind.wrap_u8];omega
  have e2:putl n (k+1)=putl n k++[UInt8.ofNat (n/256 ^ k%256)]:=putl_succ _ _
  have F:=True.intro
  repeat' (first|refine st F ?_|(refine cp F ?_ ?_<;>intro h))
  all_goals try exact cl F
  ·refine ⟨k+1,by omega,Sub.of_all ?_,by simp,by omega⟩
   simp (disch:=first|omega|(simp only [go_sem];omega)) only [go_sem,seval,reduceCtorEq,e1,e2,append_bl1]
   simp
  ·have hk2:k=size:=by omega
   subst hk2
   simp (disch:=first|omega|(simp only [go_sem];omega)) only [go_sem,seval,reduceCtorEq]
   simp
   omega
end
end Go.Am
