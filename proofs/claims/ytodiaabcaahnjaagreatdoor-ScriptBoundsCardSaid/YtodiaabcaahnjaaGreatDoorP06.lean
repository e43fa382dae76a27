/- Parts of texts, numerals as texts: strings.Split, strconv.ParseUint (the shelf's), plain laws. -/
import Derived.Test.YtodiaabcaahnjaaGreatDoorL01
import Derived.Test.YtodiaabcaahnjaaGreatDoorP01
import Derived.Test.YtodiaabcaahnjaaGreatDoorTryzSq
import Derived.Lib.SplitLaws
import Derived.Lib.ParseIntBCases
import Derived.Lib.CountLaws
import Derived.Lib.CutLaws
set_option linter.unusedVariables false
set_option linter.unusedSimpArgs false
namespace Go.Am
open Go Go.Proofs
set_option maxHeartbeats 8000000
set_option maxRecDepth 100000
section
attribute [local irreducible] aC aL thenQ blockQ scopeQ ALoop AWp
theorem grown_bytes (w:World) (e:TypeId) (s:ByteArray):w.grownBy (Lib.bytesWorld w e s) none:=by
 unfold Lib.bytesWorld World.freeze
 rw [if_neg (by decide)]
 refine ⟨rfl,rfl,rfl,?_,fun k hk _=>?_⟩
 ·show _≤(Array.modify (w.heap.push _) _ _).size
  rw [Array.size_modify,Array.size_push]
  omega
 ·show (Array.modify (w.heap.push _) w.heap.size _)[k]? = _
  rw [Array.getElem?_modify,if_neg (by omega),Array.getElem?_push_lt hk,Array.getElem?_eq_getElem hk]
def puP (s:List UInt8):Option Nat:=match Lib.parseUintB 64 s with
 |.ok v=>some v
 |_=>none
theorem a_parseU (s:List UInt8) (hs:s.length≤1048576):(∃ v,puP s=some v∧APure cx 71 [.str s,.int .i64 10,.int .i64 64] (.tup [.int .u64 (v:Nat),.nilifc])) ∨
  (puP s=none∧∃ n t,APure cx 71 [.str s,.int .i64 10,.int .i64 64] (.tup [.int .u64 n,.ifc t .any])):=by
 have hz:(⟨s.toArray⟩ : ByteArray).size=s.length:=rfl
 have hcall:∃ fn,cx.P.funcs[71]? = some fn∧fn.body.isSome=true∧(fn.name == "runtime.NumGoroutine")=false:=callable_of Tryz.func71 (by kernel_rfl) (by kernel_rfl)
 rcases hh:Lib.parseUintB 64 s with v|_|_
 ·refine .inl ⟨v,by unfold puP;rw [hh],apure_shelf (vs:=[.string ⟨s.toArray⟩,.int .i64 10,.int .i64 64]) hcall rfl fun w im0 hG=>?_⟩
  refine (Tryz.strconv_ParseUint_10_at64_ok ⟨s.toArray⟩ (by omega) v hh w).mono fun e w' h=>?_
  obtain ⟨rfl,h⟩:=h
  refine ⟨_,rfl,?_,R.tup2 (.int _ _) .nilifc⟩
  rcases h with rfl|rfl
  ·exact grown_same _
  ·exact grown_bytes _ _ _
 ·refine .inr ⟨by unfold puP;rw [hh],0,173,apure_shelf (vs:=[.string ⟨s.toArray⟩,.int .i64 10,.int .i64 64]) hcall rfl fun w im0 hG=>?_⟩
  ·obtain ⟨x,hx1,hx2⟩:=GL.iface (E:=env0 w im0) (hG 1 _ rfl)
   refine (Any.strconv_ParseUint_10_at64_syntax Tryz.laysPu14 ⟨s.toArray⟩ (by omega) hh x w hx1 hx2).mono fun e w' h=>?_
   obtain ⟨N,rfl,h1,h2,h3⟩:=h
   exact ⟨_,rfl,grown_below h3,R.tup2 (.int _ _) (.ifc _ _ _ (.any _))⟩
 ·refine .inr ⟨by unfold puP;rw [hh],18446744073709551615,173,apure_shelf (vs:=[.string ⟨s.toArray⟩,.int .i64 10,.int .i64 64]) hcall rfl fun w im0 hG=>?_⟩
  ·obtain ⟨x,hx1,hx2⟩:=GL.iface (E:=env0 w im0) (hG 2 _ rfl)
   refine (Any.strconv_ParseUint_10_at64_range Tryz.laysPu14 ⟨s.toArray⟩ (by omega) hh x w hx1 hx2).mono fun e w' h=>?_
   obtain ⟨N,rfl,h1,h2,h3⟩:=h
   exact ⟨_,rfl,grown_below h3,R.tup2 (.int _ _) (.ifc _ _ _ (.any _))⟩
def parts (s p:List UInt8):List (List UInt8):=(Lib.splitB ⟨p.toArray⟩ 0 (Lib.countB ⟨s.toArray⟩ ⟨p.toArray⟩) ⟨s.toArray⟩).map fun b=>b.data.toList
theorem index_miss1 (c:UInt8):∀ l:List UInt8,c ∉ l→Lib.index l [c] = -1
 |[],_=>rfl
 |b::l,h=>by
  have hb:¬ c=b:=fun e=>h (by simp [e])
  rw [Lib.index]
  simp only [List.isPrefixOf,Bool.and_true,beq_iff_eq,hb,if_false,index_miss1 c l (fun k=>h (List.mem_cons_of_mem _ k)),if_true]
theorem index_hit1 (c:UInt8):∀ x y:List UInt8,c ∉ x→Lib.index (x++c::y) [c]=(x.length:Int)
 |[],y,_=>by
  rw [List.nil_append,Lib.index]
  simp [List.isPrefixOf]
 |b::x,y,h=>by
  have hb:¬ c=b:=fun e=>h (by simp [e])
  have ih:=index_hit1 c x y (fun k=>h (List.mem_cons_of_mem _ k))
  rw [List.cons_append,Lib.index]
  simp only [List.isPrefixOf,Bool.and_true,beq_iff_eq,hb,if_false,ih]
  rw [if_neg (by omega)]
  simp
theorem ext_list (l:List UInt8) (a b:Nat):(⟨l.toArray⟩ : ByteArray).extract a b=⟨((l.drop a).take (b-a)).toArray⟩:=by
 apply ByteArray.ext
 rw [ByteArray.data_extract,List.extract_toArray]
theorem parts_miss (c:UInt8) (x:List UInt8) (h:c ∉ x):parts x [c]=[x]:=by
 have hi:Lib.indexB ⟨x.toArray⟩ ⟨[c].toArray⟩ = -1:=index_miss1 c x h
 unfold parts
 rw [Lib.countB_miss _ _ hi]
 rfl
theorem parts_hit (c:UInt8) (x y:List UInt8) (h:c ∉ x):parts (x++c::y) [c]=x::parts y [c]:=by
 have hi:Lib.indexB ⟨(x++c::y).toArray⟩ ⟨[c].toArray⟩=((x.length:Nat):Int):=index_hit1 c x y h
 have hs1:(⟨[c].toArray⟩ : ByteArray).size=1:=rfl
 have hs2:(⟨(x++c::y).toArray⟩ : ByteArray).size=x.length+(y.length+1):=by show (x++c::y).length=_;simp
 have ey:(⟨(x++c::y).toArray⟩ : ByteArray).extract (x.length+(⟨[c].toArray⟩ : ByteArray).size) (⟨(x++c::y).toArray⟩ : ByteArray).size=⟨y.toArray⟩:=by
  rw [ext_list,hs1,hs2]
  congr 2
  rw [List.drop_append,List.drop_eq_nil_of_le (by omega),List.nil_append]
  simp
  rw [show x.length+(y.length+1)-(x.length+1)=y.length by omega]
  exact List.take_length
 unfold parts
 rw [Lib.countB_hit _ _ x.length (by rw [hs1];exact Nat.le_refl _) hi,ey,Nat.add_comm,Lib.splitB_hit _ _ _ _ _ hi,ey,ext_list]
 simp
theorem splitB_sizes (sep:ByteArray):∀ (k:Nat) (s x:ByteArray),x∈Lib.splitB sep 0 k s→x.size≤s.size
 |0,s,x,h=>by
  rw [Lib.splitB_zero] at h
  rw [List.mem_singleton.1 h]
  exact Nat.le_refl _
 |k+1,s,x,h=>by
  unfold Lib.splitB at h
  split at h
  ·rw [List.mem_singleton.1 h];exact Nat.le_refl _
  ·rcases List.mem_cons.1 h with rfl|h
   ·rw [ByteArray.size_extract];omega
   ·have:=splitB_sizes sep k _ x h
    rw [ByteArray.size_extract] at this
    omega
theorem parts_sizes (s p:List UInt8):∀ x∈parts s p,x.length≤s.length:=by
 intro x hx
 unfold parts at hx
 obtain ⟨y,hy,rfl⟩:=List.mem_map.1 hx
 exact splitB_sizes _ _ _ _ hy
theorem parts_len (s:List UInt8) (p:List UInt8) (hp:1≤p.length):∃ w0 wr,parts s p=w0::wr∧wr.length≤s.length:=by
 have h1:=Lib.splitB_all ⟨p.toArray⟩ hp 0 _ ⟨s.toArray⟩ rfl
 have h2:=Lib.countB_le ⟨p.toArray⟩ hp _ ⟨s.toArray⟩ (Nat.le_refl _)
 have hz:(⟨s.toArray⟩ : ByteArray).size=s.length:=rfl
 have h3:(parts s p).length=Lib.countB ⟨s.toArray⟩ ⟨p.toArray⟩+1:=by unfold parts;simpa using h1
 cases hq:parts s p with
 |nil=>rw [hq] at h3;simp at h3
 |cons w0 wr =>
  rw [hq] at h3
  refine ⟨w0,wr,rfl,?_⟩
  simp only [List.length_cons] at h3
  omega
theorem nDigits_le:∀ (k u:Nat),u<10 ^ (k+1)→Lib.nDigits u≤k+1
 |0,u,h=>by rw [Lib.nDigits_small (by simpa using h)];exact Nat.le_refl _
 |k+1,u,h=>by
  by_cases h1:u<10
  ·rw [Lib.nDigits_small h1];omega
  ·rw [Lib.nDigits_big h1]
   have:=nDigits_le k (u/10) (by rw [Nat.pow_succ] at h;omega)
   omega
theorem dec_all:∀ (u:Nat),(∀ b∈Lib.decDigits u,48≤b.toNat∧b.toNat≤57)∧Lib.decDigits u≠[]:=by
 intro u
 induction u using Nat.strongRecOn with
 |_ u ih =>
  have one:∀ m:Nat,m<10→48≤(UInt8.ofNat (48+m)).toNat∧(UInt8.ofNat (48+m)).toNat≤57:=by
   intro m hm
   rw [ofNat_toNat8 _ (by omega)]
   omega
  rw [Lib.decDigits]
  split
  ·next h =>
   refine ⟨fun b hb=>?_,by simp⟩
   rw [List.mem_singleton.1 hb]
   exact one u h
  ·next h =>
   refine ⟨fun b hb=>?_,by simp⟩
   rcases List.mem_append.1 hb with hb|hb
   ·exact (ih (u/10) (by omega)).1 b hb
   ·rw [List.mem_singleton.1 hb]
    exact one (u%10) (by omega)
theorem parseM_append (M:Nat):∀ (l r:List UInt8) (acc a:Nat),Lib.parseUintM M acc l = .ok a→Lib.parseUintM M acc (l++r)=Lib.parseUintM M a r
 |[],r,acc,a,h=>by
  simp only [Lib.parseUintM] at h
  injection h with h
  rw [h,List.nil_append]
 |c::l,r,acc,a,h=>by
  rw [List.cons_append]
  simp only [Lib.parseUintM] at h ⊢
  split at h
  ·next h1 =>
   rw [if_pos h1]
   split at h
   ·cases h
   ·next h2 =>
    rw [if_neg h2]
    split at h
    ·cases h
    ·next h3 =>
     rw [if_neg h3]
     exact parseM_append M l r _ a h
  ·cases h
theorem parse_one (M acc m:Nat) (hm:m<10) (ha:acc<1844674407370955162) (h:acc*10+m≤M):Lib.parseUintM M acc [UInt8.ofNat (48+m)] = .ok (acc*10+m):=by
 have e:(UInt8.ofNat (48+m)).toNat=48+m:=ofNat_toNat8 _ (by omega)
 simp only [Lib.parseUintM,e]
 rw [if_pos (by omega),if_neg (by omega),if_neg (by omega)]
 congr 1
 omega
theorem parse_dec64:∀ u:Nat,u≤18446744073709551615→Lib.parseUintM 18446744073709551615 0 (Lib.decDigits u) = .ok u:=by
 intro u
 induction u using Nat.strongRecOn with
 |_ u ih =>
  intro hu
  rw [Lib.decDigits]
  split
  ·next h =>
   have:=parse_one 18446744073709551615 0 u h (by omega) (by omega)
   simpa using this
  ·next h =>
   rw [parseM_append 18446744073709551615 _ _ 0 (u/10) (ih (u/10) (by omega) (by omega)),parse_one 18446744073709551615 (u/10) (u%10) (by omega) (by omega) (by omega)]
   congr 1
   omega
theorem puP_dec (u:Nat) (hu:u<18446744073709551616):puP (Lib.decDigits u)=some u:=by
 have:Lib.parseUintB 64 (Lib.decDigits u) = .ok u:=by
  unfold Lib.parseUintB
  rw [if_neg (dec_all u).2]
  exact parse_dec64 u (by omega)
 unfold puP
 rw [this]
theorem parseM_lt (M:Nat):∀ (l:List UInt8) (acc v:Nat),acc≤M→Lib.parseUintM M acc l = .ok v→v≤M
 |[],acc,v,ha,h=>by
  simp only [Lib.parseUintM] at h
  injection h with h
  omega
 |c::r,acc,v,ha,h=>by
  simp only [Lib.parseUintM] at h
  split at h
  ·split at h
   ·cases h
   ·split at h
    ·cases h
    ·exact parseM_lt M r _ v (by omega) h
  ·cases h
theorem puP_lt {s:List UInt8} {v:Nat} (h:puP s=some v):v<18446744073709551616:=by
 unfold puP at h
 split at h
 ·next x hx =>
  injection h with h
  subst h
  unfold Lib.parseUintB at hx
  split at hx
  ·cases hx
  ·have:=parseM_lt (2 ^ 64-1) _ 0 _ (Nat.zero_le _) hx
   have e:(2:Nat) ^ 64-1=18446744073709551615:=by decide
   omega
 ·cases h
theorem dec_no (u:Nat) (c:UInt8) (hc:c.toNat<48∨57<c.toNat):c ∉ Lib.decDigits u:=fun h=>by
 have:=(dec_all u).1 c h
 omega
theorem dec_len (u:Nat) (h:u<18446744073709551616):(Lib.decDigits u).length≤20:=by
 rw [Lib.decDigits_length]
 exact nDigits_le 19 u (by show u<100000000000000000000;omega)
theorem bels_str (n:Nat) (ws:List (List UInt8)):bels n (ws.map AVal.str)=true :=
 bels_iff.2 (by intro x hx;obtain ⟨y,_,rfl⟩:=List.mem_map.1 hx;rfl)
end
end Go.Am
