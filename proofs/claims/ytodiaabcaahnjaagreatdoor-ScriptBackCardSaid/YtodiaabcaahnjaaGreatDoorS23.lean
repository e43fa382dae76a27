/- A script's text: the document's Text. -/
import Derived.Test.YtodiaabcaahnjaaGreatDoorS21
import Derived.Test.YtodiaabcaahnjaaGreatDoorS12
set_option linter.unusedVariables false
set_option linter.unusedSimpArgs false
section
namespace Go.Am
open Go Go.Proofs
set_option maxHeartbeats 8000000
set_option maxRecDepth 100000
section
attribute [local irreducible] aC aL thenQ blockQ scopeQ ALoop AWp
end
end Go.Am
end
section
namespace Go.Am
open Go Go.Proofs
set_option maxHeartbeats 8000000
set_option maxRecDepth 100000
section
attribute [local irreducible] aC aL thenQ blockQ scopeQ ALoop AWp
structure Sp.Wd (s:Sp):Prop where
 x6:s.xs.length=6
 xw:∀ x∈s.xs,x<18446744073709551616
 aw:s.a<18446744073709551616
 ww:s.w<18446744073709551616
structure ScW (s:Su) (l:List (Sp × Bool)):Prop where
 ok:s.Ok
 st:∀ p∈l,p.1.Wd
 len:s.d.length≤9223372036854775807∧s.e.length≤9223372036854775807∧l.length≤9223372036854775807
theorem ScW.okS {s:Su} {l:List (Sp × Bool)} (h:ScW s l) (hm:¬ MuchS s l):(∀ p∈l,p.1.Ok)∧(∀ p∈l,p.1.b.length≤5000)∧s.d.length≤100∧s.e.length≤100∧l.length≤200:=by
 have hb:∀ p∈l,p.1.b.length≤5000:=fun p hp=>Decidable.byContradiction fun k=>hm (.inr (.inr (.inr ⟨p,hp,by omega⟩)))
 refine ⟨fun p hp=>?_,hb,?_,?_,?_⟩
 ·have:=h.st p hp
  exact ⟨this.x6,this.xw,this.aw,this.ww,by have:=hb p hp;omega⟩
 ·exact Decidable.byContradiction fun k=>hm (.inl (by omega))
 ·exact Decidable.byContradiction fun k=>hm (.inr (.inl (by omega)))
 ·exact Decidable.byContradiction fun k=>hm (.inr (.inr (.inl (by omega))))
theorem scT_small (s:Su) (l:List (Sp × Bool)) (h:ScW s l) (hm:¬ MuchS s l) (h1:MaySu s):(scT s l).length≤4194304:=by
 obtain ⟨k1,k2,k3,k4,k5⟩:=h.okS hm
 have t1:=txt_len 200 _ (linesL_len s h.ok h1)
 rw [linesL_length] at t1
 have t2:=txt_len 20000 (l.map fun p=>lineS p.1) (fun z hz=>by
  obtain ⟨p,hp,rfl⟩:=List.mem_map.1 hz
  exact lineS_len _ (k1 p hp) (by have:=k2 p hp;omega))
 rw [List.length_map] at t2
 unfold scT
 rw [List.length_append]
 omega
end
end Go.Am
end
