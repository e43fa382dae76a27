/- The abstract layer: functions without a Go body that look for bytes, and count them. -/
import Derived.Test.YtodiaabcaahnjaaGreatDoorAmFresh
import Derived.Lib.Bytealg
set_option linter.unusedVariables false
set_option linter.unusedSimpArgs false
namespace Go.Am
open Go
noncomputable section
def extIs (C:Cx) (f:FuncId) (e:Array Value→Sem Value):Prop :=
 ∃ fn,C.P.funcs[f]? = some fn∧(fn.name == "runtime.NumGoroutine")=false∧fn.body.isNone=true∧Extern.findNext fn=none∧Extern.find fn=some e
theorem ext_two {C:Cx} {f:FuncId} {e:Array Value→Sem Value} (h:extIs C f e) (s:List UInt8) (c:Int) (r:Int)
  (hr:∀ (b:ByteArray) (w:World),b.data.toList=s→(e #[.string b,.int .u8 c]).run C.P w = .ok (.int .i64 r) w):AExt C f [.str s,.int .u8 c] (.int .i64 r):=by
 obtain ⟨fn,h1,h2,h3,h4,h5⟩:=h
 refine ⟨fn,e,h1,h2,h3,h4,h5,?_⟩
 intro E vs hE hn hrel
 have r0:=hrel 0 (by simp)
 have r1:=hrel 1 (by simp)
 obtain ⟨l⟩:=vs
 match l,hn with
 |[x,y],_ =>
  have r0:R E (.str s) x:=r0
  have r1:R E (.int .u8 c) y:=r1
  cases r0 with
  |str b _ hb =>
   cases r1 with
   |int=>exact ⟨_,hr b E.w hb,.int _ _⟩
theorem ext_count {C:Cx} {f:FuncId} (h:extIs C f Extern.BytealgCount.count) (s:List UInt8) (c:Int):AExt C f [.str s,.int .u8 c] (.int .i64 (Lib.countByte s c.toNat.toUInt8)) :=
 ext_two h s c _ fun b w hb=>by rw [Lib.run_countString,hb]
theorem ext_index {C:Cx} {f:FuncId} (h:extIs C f Extern.BytealgIndexByte.indexByte) (s:List UInt8) (c:Int):AExt C f [.str s,.int .u8 c] (.int .i64 (Lib.indexByte s c.toNat.toUInt8)) :=
 ext_two h s c _ fun b w hb=>by rw [Lib.run_indexByteString,hb]
def idxX (c:UInt8):List UInt8→Nat→Int
 |[],_ => -1
 |b::l,k=>bif b==c then (k:Int) else idxX c l (k+1)
theorem idxX_eq (c:UInt8):∀ (l:List UInt8) (k:Nat),idxX c l k=if Lib.indexByte l c = -1 then -1 else Lib.indexByte l c+k
 |[],_=>rfl
 |b::l,k=>by
  unfold idxX Lib.indexByte
  cases h:(b==c) with
  |true=>simp
  |false =>
   rw [cond_false,idxX_eq c l (k+1)]
   simp only [Bool.false_eq_true,if_false,beq_iff_eq]
   have:=Lib.indexByte_ge l c
   by_cases h1:Lib.indexByte l c = -1
   ·simp [h1]
   ·rw [if_neg h1,if_neg h1,if_neg (by omega)]
    omega
def cntX (c:UInt8):List UInt8→Nat→Nat
 |[],n=>n
 |b::l,n=>cntX c l (bif b==c then n+1 else n)
theorem cntX_eq (c:UInt8):∀ (l:List UInt8) (n:Nat),cntX c l n=n+Lib.countByte l c
 |[],n=>by simp [cntX,Lib.countByte]
 |b::l,n=>by
  unfold cntX
  rw [cntX_eq c l]
  unfold Lib.countByte
  rw [List.count_cons]
  cases h:(b==c)<;>simp<;>omega
def extT (i j:Nat) (f:FuncId) (args:List AVal):Option AVal :=
 match args with
 |[.str s,.int .u8 c]=>bif Nat.beq f i then some (.int .i64 (idxX c.toNat.toUInt8 s 0)) else bif Nat.beq f j then some (.int .i64 (cntX c.toNat.toUInt8 s 0)) else none
 |_=>none
theorem extT_ok {C:Cx} {i j:Nat} (hi:extIs C i Extern.BytealgIndexByte.indexByte) (hj:extIs C j Extern.BytealgCount.count) (f:FuncId) (args:List AVal) (r:AVal) (h:extT i j f args=some r):AExt C f args r:=by
 unfold extT at h
 split at h
 ·next s c =>
  cases h1:Nat.beq f i with
  |true =>
   rw [h1] at h
   simp only [cond_true,Option.some.injEq] at h
   subst h
   rw [nbeq h1,idxX_eq]
   have:=ext_index hi s c
   by_cases e:Lib.indexByte s c.toNat.toUInt8 = -1
   ·rw [if_pos e];rw [e] at this;exact this
   ·rw [if_neg e];simpa using this
  |false =>
   rw [h1] at h
   simp only [cond_false] at h
   cases h2:Nat.beq f j with
   |true =>
    rw [h2] at h
    simp only [cond_true,Option.some.injEq] at h
    subst h
    rw [nbeq h2,cntX_eq]
    have:=ext_count hj s c
    simpa using this
   |false=>rw [h2] at h;cases h
 ·cases h
end
end Go.Am
