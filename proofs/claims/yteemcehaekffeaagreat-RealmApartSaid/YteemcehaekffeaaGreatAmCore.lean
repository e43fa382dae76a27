/- The abstract layer: abstract values, the environment that ties them to a world, what a later environment keeps. -/
import Derived.WalkKit
import Derived.CallsIn
import Derived.OrdersIn
set_option linter.unusedVariables false
set_option linter.unusedSimpArgs false
section
namespace Go.Am
open Go
inductive Tag
 |any
 |full
 |grow (g:Nat)
 |own (g:Nat)
 |lit
inductive AVal:Type
 |any
 |raw (v:Value)
 |int (k:IntKind) (n:Int)
 |bool (b:Bool)
 |str (s:List UInt8)
 |nilp
 |ptr (i off:Nat)
 |cptr (cs:List AVal)
 |sl (sz:Nat) (nl:Bool) (xs:List AVal) (tg:Tag)
 |view (i off n cap:Nat)
 |nilmap
 |map (i:Nat)
 |fn (f:Fn) (first captured:List AVal)
 |nilfn
 |ifc (t:TypeId) (v:AVal)
 |nilifc
 |agg (cs:List AVal)
 |tup (vs:List AVal)
 |yld (i:Nat)
 |room (g sz:Nat) (t:TypeId) (n:Nat)
 |vrow (i off n:Nat)
 |ms (i sz n:Nat)
def AVal.cells:AVal→List AVal
 |.agg cs=>cs
 |v=>[v]
inductive ABox
 |cells (cs:List AVal) (t:TypeId)
 |grow (n sz:Nat) (t:TypeId)
 |mp (es:List (AVal × AVal × Nat)) (clock:Nat)
 |iter (m:Option Nat) (since:Nat) (seen:List Nat) (last:Nat)
 |loop (fr:List (Nat × AVal)) (N:Nat) (ps:List Nat) (asg body:Code) (st:LoopState) (pend:Option Code) (tag:Nat)
 |mpx (es:List (AVal × AVal)) (clock:Nat)
 |frz (o:Option (List (AVal × AVal)))
 |hole
 |siter (s:List UInt8) (pos:Nat)
 |row (cs:List AVal) (t:TypeId)
 |dead
def ABox.isGrow:ABox→Bool
 |.grow _ _ _=>true
 |.hole=>true
 |_=>false
def ABox.rd:ABox→Bool
 |.row _ _=>true
 |.dead=>true
 |_=>false
def Share (x y:Option ABox):Prop:=(x=some .dead∨y=some .dead)∧(∃ a,x=some a∧a.rd=true)∧∃ a,y=some a∧a.rd=true
abbrev St:=List ABox
structure Env where
 w:World
 mu:List (Option Nat)
 S:St
 base:Nat
 im0:Nat→Nat→Prop
 act:Nat
def Env.free (E:Env) (b:Nat):Prop:=∀ i:Nat,E.mu[i]? ≠ some (some b)
def Env.Im (E:Env) (b o:Nat):Prop :=
 b<E.w.heap.size∧((b<E.base∧E.im0 b o)∨(E.base≤b∧E.free b) ∨
  (E.base≤b∧∃ (i n sz:Nat) (t:TypeId),E.mu[i]? = some (some b)∧E.S[i]? = some (ABox.grow n sz t)∧o<n*sz))
def Env.holds (E:Env) (ad:Addr) (j:Nat) (v:Value):Prop :=
 ad.spot=none∧E.w.cell? (ad.add j)=some v∧E.Im ad.block (ad.off+j)∧v.oneCell'=true
def Env.tagOk (E:Env) (sz:Nat):Tag→Option Addr→Nat→Nat→Prop
 |.any,_,_,_=>True
 |.full,_,n,c=>c=n
 |.lit,a,n,c=>c=n∧∀ ad,a=some ad→ad.spot=none∧E.base≤ad.block∧ad.block<E.w.heap.size∧E.free ad.block
 |.grow g,a,n,c=>∃ (m:Nat) (t:TypeId),E.S[g]? = some (ABox.grow m sz t)∧n≤m∧(n=m →
   (E.mu[g]? = some none∧c=n) ∨
   (∃ (b:Nat) (arr:Array Value),E.mu[g]? = some (some b)∧a=some ⟨b,0,none⟩∧E.w.heap[b]? = some (.cells arr t (0,0))∧arr.size=c*sz))
 |.own g,a,n,c=>∃ (m:Nat) (t:TypeId),E.S[g]? = some (ABox.grow m sz t)∧n≤m∧(n=m →
   (E.mu[g]? = some none∧c=n∧n=0∧a=none) ∨
   (∃ (b:Nat) (arr:Array Value),E.mu[g]? = some (some b)∧a=some ⟨b,0,none⟩∧E.w.heap[b]? = some (.cells arr t (0,0))∧arr.size=c*sz))
theorem Env.tagOk.own_grow {E:Env} {sz g n c:Nat} {a:Option Addr} (h:E.tagOk sz (.own g) a n c):E.tagOk sz (.grow g) a n c:=by
 obtain ⟨m,t,h1,h2,h3⟩:=h
 exact ⟨m,t,h1,h2,fun e=>(h3 e).imp (fun k=>⟨k.1,k.2.1⟩) id⟩
def Env.roomOk (E:Env) (g sz:Nat) (t:TypeId) (b c:Nat):Prop :=
 ∃ m:Nat,E.S[g]? = some (ABox.grow m sz t)∧(m=0→E.mu[g]? = some (some b)∧∃ arr:Array Value,E.w.heap[b]? = some (.cells arr t (0,0))∧arr.size=c*sz)
inductive R (E:Env):AVal→Value→Prop
 |any (x:Value):R E .any x
 |raw (x:Value):R E (.raw x) x
 |int (k:IntKind) (n:Int):R E (.int k n) (.int k n)
 |bool (b:Bool):R E (.bool b) (.bool b)
 |str (s:ByteArray) (l:List UInt8) (h:s.data.toList=l):R E (.str l) (.string s)
 |nilp:R E .nilp (.pointer none)
 |ptr (i off b:Nat) (h:E.mu[i]? = some (some b)) (hb:∃ x:ABox,E.S[i]? = some x∧x.isGrow=false):R E (.ptr i off) (.pointer (some ⟨b,off,none⟩))
 |cptr (cs:List AVal) (ad:Addr) (f:Nat→Value) (hf:∀ j,j<cs.length→E.holds ad j (f j)) (hr:∀ j (h:j<cs.length),R E cs[j] (f j)) :
   R E (.cptr cs) (.pointer (some ad))
 |slnil (sz:Nat) (tg:Tag) (ht:E.tagOk sz tg none 0 0):R E (.sl sz true [] tg) (.slice none 0 0)
 |sl (sz:Nat) (xs:List AVal) (tg:Tag) (ad:Addr) (n c:Nat) (f:Nat→Value) (hn:n=xs.length) (hc:n≤c) (hm:c≤maxLen)
   (hf:∀ j,j<n*sz→E.holds ad j (f j)) (hsz:∀ k (h:k<xs.length),(xs[k]).cells.length=sz)
   (hr:∀ k (h:k<xs.length) j (hj:j<(xs[k]).cells.length),R E ((xs[k]).cells[j]) (f (k*sz+j)))
   (ht:E.tagOk sz tg (some ad) n c):R E (.sl sz false xs tg) (.slice (some ad) n c)
 |view (i off n cap b:Nat) (hnc:n≤cap) (h:E.mu[i]? = some (some b)) (hb:∃ x:ABox,E.S[i]? = some x∧x.isGrow=false):R E (.view i off n cap) (.slice (some ⟨b,off,none⟩) n cap)
 |nilmap:R E .nilmap (.map none)
 |map (i b:Nat) (h:E.mu[i]? = some (some b)) (hb:∃ x:ABox,E.S[i]? = some x∧x.isGrow=false):R E (.map i) (.map (some b))
 |fn (f:Fn) (xs ys:List AVal) (as bs:Array Value) (h1:as.size=xs.length) (h2:bs.size=ys.length)
   (hx:∀ j (h:j<xs.length),R E xs[j] (as.getD j undef)) (hy:∀ j (h:j<ys.length),R E ys[j] (bs.getD j undef)):R E (.fn f xs ys) (.func f as bs)
 |nilfn:R E .nilfn .nilFunc
 |ifc (t:TypeId) (v:AVal) (x:Value) (h:R E v x):R E (.ifc t v) (.iface t x)
 |nilifc:R E .nilifc .nilIface
 |agg (cs:List AVal) (as:Array Value) (h1:as.size=cs.length) (hx:∀ j (h:j<cs.length),R E cs[j] (as.getD j undef)):R E (.agg cs) (.agg as)
 |tup (cs:List AVal) (as:Array Value) (h1:as.size=cs.length) (hx:∀ j (h:j<cs.length),R E cs[j] (as.getD j undef)):R E (.tup cs) (.tuple as)
 |yld (i b:Nat) (h:E.mu[i]? = some (some b)) (hb:∃ x:ABox,E.S[i]? = some x∧x.isGrow=false):R E (.yld i) (.func (.yield b) #[] #[])
 |room (g sz:Nat) (t:TypeId) (n b c:Nat) (hn:n≤c) (hm:c≤maxLen) (h:E.roomOk g sz t b c):R E (.room g sz t n) (.slice (some ⟨b,0,none⟩) n c)
 |vrow (i off n b c:Nat) (hnc:n≤c) (hcm:c≤maxLen) (h:E.mu[i]? = some (some b)) (hb:∃ x:ABox,E.S[i]? = some x∧x.isGrow=false):R E (.vrow i off n) (.slice (some ⟨b,off,none⟩) n c)
 |ms (i sz n b c:Nat) (hnc:n≤c) (hcm:c≤maxLen) (h:E.mu[i]? = some (some b)) (hb:∃ x:ABox,E.S[i]? = some x∧x.isGrow=false)
   (hcp:∀ (cs:List AVal) (t:TypeId),E.S[i]? = some (.row cs t)→∃ (arr:Array Value) (q:TypeId) (m:Nat × Nat),E.w.heap[b]? = some (.cells arr q m)∧c*sz≤arr.size):R E (.ms i sz n) (.slice (some ⟨b,0,none⟩) n c)
def HKeep (base:Nat) (w w':World) (b:Nat):Prop :=
 w'.heap[b]? = w.heap[b]? ∨ (base≤b∧∃ (arr:Array Value) (t:TypeId) (m m':Nat × Nat),w.heap[b]? = some (.cells arr t m)∧w'.heap[b]? = some (.cells arr t m'))
theorem HKeep.old {base:Nat} {w w':World} {b:Nat} (h:HKeep base w w' b) (hb:b<base):w'.heap[b]? = w.heap[b]?:=by
 rcases h with h|⟨h,_⟩
 ·exact h
 ·omega
theorem HKeep.refl (base:Nat) (w:World) (b:Nat):HKeep base w w b:=.inl rfl
theorem HKeep.trans {base:Nat} {w1 w2 w3:World} {b:Nat} (h:HKeep base w1 w2 b) (k:HKeep base w2 w3 b):HKeep base w1 w3 b:=by
 rcases h with h|⟨h0,arr,t,m,m',h1,h2⟩
 ·rcases k with k|⟨k0,arr,t,m,m',k1,k2⟩
  ·exact .inl (k.trans h)
  ·exact .inr ⟨k0,arr,t,m,m',h▸k1,k2⟩
 ·rcases k with k|⟨k0,arr',t',m1,m2,k1,k2⟩
  ·exact .inr ⟨h0,arr,t,m,m',h1,k.trans h2⟩
  ·rw [h2] at k1
   injection k1 with k1
   injection k1 with e1 e2 e3
   subst e1 e2
   exact .inr ⟨h0,arr,t,m,m2,h1,k2⟩
theorem HKeep.cell {base:Nat} {w w':World} {b:Nat} (h:HKeep base w w' b) (o:Nat) (s:Option Nat):w'.cell? ⟨b,o,s⟩=w.cell? ⟨b,o,s⟩:=by
 rcases h with h|⟨_,arr,t,m,m',h1,h2⟩
 ·simp [World.cell?,h]
 ·simp [World.cell?,h1,h2]
theorem HKeep.other {base:Nat} {w w':World} {b:Nat} (h:HKeep base w w' b) {o:Obj} (ho:w.heap[b]? = some o) (hn:∀ arr t m,o ≠ .cells arr t m):w'.heap[b]? = some o:=by
 rcases h with h|⟨_,arr,t,m,m',h1,h2⟩
 ·exact h.trans ho
 ·rw [ho] at h1
  exact absurd (Option.some.inj h1) (hn _ _ _)
theorem HKeep.cells {base:Nat} {w w':World} {b:Nat} (h:HKeep base w w' b) {arr:Array Value} {t:TypeId} {m:Nat × Nat} (ho:w.heap[b]? = some (.cells arr t m)):∃ m':Nat × Nat,w'.heap[b]? = some (.cells arr t m'):=by
 rcases h with h|⟨_,arr',t',m1,m',h1,h2⟩
 ·exact ⟨m,h.trans ho⟩
 ·rw [ho] at h1
  injection h1 with h1
  injection h1 with e1 e2 e3
  subst e1 e2
  exact ⟨m',h2⟩
def KeptSz (w w':World) (b:Nat):Prop:=∀ (arr:Array Value) (q:TypeId) (m:Nat × Nat),w.heap[b]? = some (.cells arr q m)→∃ (arr':Array Value) (q':TypeId) (m':Nat × Nat),w'.heap[b]? = some (.cells arr' q' m')∧arr'.size=arr.size
theorem KeptSz.same {w w':World} {b:Nat} (h:w'.heap[b]? = w.heap[b]?):KeptSz w w' b:=fun arr q m k=>⟨arr,q,m,h.trans k,rfl⟩
theorem KeptSz.trans {w1 w2 w3:World} {b:Nat} (h:KeptSz w1 w2 b) (k:KeptSz w2 w3 b):KeptSz w1 w3 b:=fun arr q m e=>by
 obtain ⟨a,x,y,e1,e2⟩:=h arr q m e
 obtain ⟨a',x',y',e3,e4⟩:=k a x y e1
 exact ⟨a',x',y',e3,e4.trans e2⟩
structure Ext (E E':Env):Prop where
 base:E'.base=E.base
 im0:E'.im0=E.im0
 act:E'.act=E.act
 size:E.w.heap.size≤E'.w.heap.size
 os:E'.w.os=E.w.os
 tape:E'.w.tape=E.w.tape
 output:E'.w.output=E.w.output
 len:E.S.length≤E'.S.length
 free:∀ b:Nat,b<E.w.heap.size→E.free b→E'.free b∧HKeep E.base E.w E'.w b
 box:∀ (i:Nat) (x:ABox),E.S[i]? = some x→x.isGrow=false→E'.mu[i]? = E.mu[i]? ∧ ∃ y:ABox,E'.S[i]? = some y∧y.isGrow=false
 grow:∀ (i n sz:Nat) (t:TypeId),E.S[i]? = some (ABox.grow n sz t)→∃ n':Nat,E'.S[i]? = some (ABox.grow n' sz t)∧n≤n' ∧
  (n=n'→E'.mu[i]? = E.mu[i]? ∧ ∀ b:Nat,E.mu[i]? = some (some b)→E'.w.heap[b]? = E.w.heap[b]?) ∧
  ∀ b:Nat,E.mu[i]? = some (some b)→(∀ o:Nat,o<n*sz→E'.w.cell? ⟨b,o,none⟩=E.w.cell? ⟨b,o,none⟩)∧(E'.mu[i]? = some (some b)∨E'.free b)
 frz:∀ (i b:Nat) (o:Option (List (AVal × AVal))),E.S[i]? = some (.frz o)→E.mu[i]? = some (some b)→E'.S[i]? = some (.frz o)∧E'.w.heap[b]? = E.w.heap[b]?
 row:∀ (i:Nat) (cs:List AVal) (t:TypeId),E'.S[i]? = some (.row cs t)→i<E.S.length→(∃ (cs0:List AVal) (t0:TypeId),E.S[i]? = some (.row cs0 t0))∧∀ b:Nat,E.mu[i]? = some (some b)→KeptSz E.w E'.w b
theorem Ext.refl (E:Env):Ext E E :=
 ⟨rfl,rfl,rfl,Nat.le_refl _,rfl,rfl,rfl,Nat.le_refl _,fun _ _ h=>⟨h,.refl _ _ _⟩,fun _ x h hx=>⟨rfl,x,h,hx⟩,
  fun _ n _ _ h=>⟨n,h,Nat.le_refl _,fun _=>⟨rfl,fun _ _=>rfl⟩,fun _ hb=>⟨fun _ _=>rfl,.inl hb⟩⟩,fun _ _ _ h _=>⟨h,rfl⟩,fun _ cs t h _=>⟨⟨cs,t,h⟩,fun _ _=>.same rfl⟩⟩
abbrev Fr:=List (Nat × AVal)
def Fr.get:Fr→Nat→AVal
 |[],_=>.any
 |(k,v)::r,t=>if t=k then v else Fr.get r t
def mpOk (E:Env) (i:Nat) (es:List (AVal × AVal × Nat)) (c:Nat):Prop :=
 ∃ (b:Nat) (ms:Array MapEntry),E.mu[i]? = some (some b)∧E.w.heap[b]? = some (.map ms c)∧ms.size=es.length ∧
   ∀ j (h:j<es.length),R E es[j].1 (ms.getD j default).key∧R E es[j].2.1 (ms.getD j default).val∧(ms.getD j default).born=es[j].2.2
structure MX (es:List (AVal × AVal)) (es':List (AVal × AVal × Nat)) (c:Nat):Prop where
 perm:(es'.map fun e=>(e.1,e.2.1)).Perm es
 nodup:(es'.map fun e=>e.2.2).Nodup
 lt:∀ e∈es',e.2.2<c
def entryOk (E:Env) (i:Nat):ABox→Prop
 |.cells cs t=>∃ (b:Nat) (arr:Array Value),E.mu[i]? = some (some b)∧E.w.heap[b]? = some (.cells arr t (0,0))∧arr.size=cs.length ∧
   ∀ j (h:j<cs.length),R E cs[j] (arr.getD j undef)∧(arr.getD j undef).oneCell'=true
 |.row cs t=>∃ (b:Nat) (arr:Array Value),E.mu[i]? = some (some b)∧E.w.heap[b]? = some (.cells arr t (0,0))∧cs.length≤arr.size ∧
   ∀ j (h:j<cs.length),R E cs[j] (arr.getD j undef)∧(arr.getD j undef).oneCell'=true
 |.grow n sz t=>E.mu[i]? = some none ∨
   ∃ (b:Nat) (arr:Array Value),E.mu[i]? = some (some b)∧E.base≤b∧E.w.heap[b]? = some (.cells arr t (0,0))∧n*sz≤arr.size
 |.mpx es c=>∃ es',MX es es' c∧mpOk E i es' c
 |.frz o=>match o with
  |none=>True
  |some es=>∃ c es',MX es es' c∧mpOk E i es' c
 |.hole=>True
 |.dead=>True
 |.siter s pos=>∃ (b:Nat) (ba:ByteArray),E.mu[i]? = some (some b)∧E.w.heap[b]? = some (.stringIter ba pos)∧ba.data.toList=s
 |.mp es c=>∃ (b:Nat) (ms:Array MapEntry),E.mu[i]? = some (some b)∧E.w.heap[b]? = some (.map ms c)∧ms.size=es.length ∧
   ∀ j (h:j<es.length),R E es[j].1 (ms.getD j default).key∧R E es[j].2.1 (ms.getD j default).val∧(ms.getD j default).born=es[j].2.2
 |.iter m since seen last=>∃ b:Nat,E.mu[i]? = some (some b)∧match m with
   |none=>E.w.heap[b]? = some (.mapIter none since seen.toArray last)
   |some k=>∃ c:Nat,E.mu[k]? = some (some c)∧(∃ x:ABox,E.S[k]? = some x∧x.isGrow=false)∧E.w.heap[b]? = some (.mapIter (some c) since seen.toArray last)
 |.loop fr N ps asg body st pend _=>∃ (b:Nat) (r:Loop),E.mu[i]? = some (some b)∧E.w.heap[b]? = some (.loop r)∧r.params.toList=ps∧r.assign=asg∧r.body=body∧r.state=st∧r.pending=pend ∧
   r.tmps.size=N∧∀ t,R E (Fr.get fr t) (r.tmps.getD t undef)
structure GL (E:Env) (g:Nat) (v:AVal):Prop where
 r:R E v (.pointer (some ⟨g,0,none⟩))
 free:E.free g
 obj:∃ (arr:Array Value) (t:TypeId) (m:Nat × Nat),E.w.heap[g]? = some (.cells arr t m)∧(∀ cs,v = .cptr cs→arr.size=cs.length)∧(v = .cptr [.any]→∃ n:Int,arr = #[.int .i64 n])∧(v = .any→∃ x,arr = #[x]∧(x = .nilIface∨∃ te pe,x = .iface te pe))
structure Wf (G:Nat→Option AVal) (E:Env):Prop where
 len:E.mu.length=E.S.length
 inj:∀ i j b:Nat,E.mu[i]? = some (some b)→E.mu[j]? = some (some b)→¬ Share E.S[i]? E.S[j]? → i=j
 lt:∀ i b:Nat,E.mu[i]? = some (some b)→b<E.w.heap.size
 base:E.base≤E.w.heap.size
 im:∀ b o:Nat,b<E.base→E.im0 b o→E.free b
 entry:∀ (i:Nat) (x:ABox),E.S[i]? = some x→entryOk E i x
 glob:∀ g v,G g=some v→GL E g v
theorem Wf.one {G:Nat→Option AVal} {E:Env} (hE:Wf G E) {i j b:Nat} {x y:ABox} (hi:E.mu[i]? = some (some b)) (hj:E.mu[j]? = some (some b)) (hx:E.S[i]? = some x) (hy:E.S[j]? = some y) (nx:x ≠ .dead) (ny:y ≠ .dead):i=j :=
 hE.inj i j b hi hj fun ⟨h,_⟩=>by
  rw [hx,hy] at h
  rcases h with h|h
  ·exact nx (Option.some.inj h)
  ·exact ny (Option.some.inj h)
theorem Wf.one1 {G:Nat→Option AVal} {E:Env} (hE:Wf G E) {i j b:Nat} {x:ABox} (hi:E.mu[i]? = some (some b)) (hj:E.mu[j]? = some (some b)) (hx:E.S[i]? = some x) (nx:x.rd=false):i=j :=
 hE.inj i j b hi hj fun ⟨_,⟨a,h,k⟩,_⟩=>by
  rw [hx] at h
  rw [← Option.some.inj h,nx] at k
  cases k
theorem share_set {S:St} {i:Nat} {x y:ABox} (hx:S[i]? = some x) (hr:x.rd=true→y.rd=true) (hd:x ≠ .dead) {j k:Nat} (h:Share S[j]? S[k]?):Share (S.set i y)[j]? (S.set i y)[k]?:=by
 have hi:i<S.length:=(List.getElem?_eq_some_iff.1 hx).1
 have key:∀ m:Nat,(S[m]? = some .dead→(S.set i y)[m]? = some .dead)∧((∃ a,S[m]? = some a∧a.rd=true)→∃ a,(S.set i y)[m]? = some a∧a.rd=true):=by
  intro m
  by_cases e:i=m
  ·subst e
   rw [hx,List.getElem?_set_self hi]
   exact ⟨fun h=>absurd (Option.some.inj h) hd,fun ⟨a,h1,h2⟩=>⟨y,rfl,hr (Option.some.inj h1▸h2)⟩⟩
  ·rw [List.getElem?_set_ne e];exact ⟨id,id⟩
 exact ⟨h.1.imp (key j).1 (key k).1,(key j).2 h.2.1,(key k).2 h.2.2⟩
theorem share_push {S T:St} {j k:Nat} (hj:j<S.length) (hk:k<S.length) (h:Share S[j]? S[k]?):Share (S++T)[j]? (S++T)[k]?:=by
 rw [List.getElem?_append_left hj,List.getElem?_append_left hk];exact h
theorem cell_same {w w':World} {b:Nat} (h:w'.heap[b]? = w.heap[b]?) (o:Nat) (s:Option Nat):w'.cell? ⟨b,o,s⟩=w.cell? ⟨b,o,s⟩:=by
 simp [World.cell?,h]
theorem Ext.trans {G:Nat→Option AVal} {A B C:Env} (hA:Wf G A) (h:Ext A B) (k:Ext B C):Ext A C:=by
 refine ⟨k.base.trans h.base,k.im0.trans h.im0,k.act.trans h.act,Nat.le_trans h.size k.size,k.os.trans h.os,k.tape.trans h.tape,k.output.trans h.output,
  Nat.le_trans h.len k.len,?_,?_,?_,fun i b o hS hm=>⟨(k.frz i b o (h.frz i b o hS hm).1 ((h.box i _ hS rfl).1.trans hm)).1,(k.frz i b o (h.frz i b o hS hm).1 ((h.box i _ hS rfl).1.trans hm)).2.trans (h.frz i b o hS hm).2⟩,fun i cs t hS hi=>?_⟩
 ·intro b hb hf
  obtain ⟨f1,e1⟩:=h.free b hb hf
  obtain ⟨f2,e2⟩:=k.free b (Nat.lt_of_lt_of_le hb h.size) f1
  exact ⟨f2,e1.trans (h.base▸e2)⟩
 ·intro i x hx hg
  obtain ⟨e1,y,hy,hyg⟩:=h.box i x hx hg
  obtain ⟨e2,z,hz,hzg⟩:=k.box i y hy hyg
  exact ⟨e2.trans e1,z,hz,hzg⟩
 ·intro i n sz t hx
  obtain ⟨n',hx',hn,he,hc⟩:=h.grow i n sz t hx
  obtain ⟨n'',hx'',hn',he',hc'⟩:=k.grow i n' sz t hx'
  refine ⟨n'',hx'',Nat.le_trans hn hn',fun e=>?_,fun b hb=>?_⟩
  ·have e1:n=n':=by omega
   have e2:n'=n'':=by omega
   obtain ⟨m1,b1⟩:=he e1
   obtain ⟨m2,b2⟩:=he' e2
   exact ⟨m2.trans m1,fun b hb=>(b2 b (m1.trans hb)).trans (b1 b hb)⟩
  ·obtain ⟨c1,d1⟩:=hc b hb
   have hlt:=Nat.lt_of_lt_of_le (hA.lt i b hb) h.size
   rcases d1 with d1|d1
   ·obtain ⟨c2,d2⟩:=hc' b d1
    exact ⟨fun o ho=>(c2 o (Nat.lt_of_lt_of_le ho (Nat.mul_le_mul_right _ hn))).trans (c1 o ho),d2⟩
   ·obtain ⟨f2,e2⟩:=k.free b hlt d1
    exact ⟨fun o ho=>(e2.cell o none).trans (c1 o ho),.inr f2⟩
 ·obtain ⟨⟨cs1,t1,h1⟩,h2⟩:=k.row i cs t hS (Nat.lt_of_lt_of_le hi h.len)
  obtain ⟨h3,h4⟩:=h.row i cs1 t1 h1 hi
  obtain ⟨cs0,t0,h5⟩:=h3
  exact ⟨⟨cs0,t0,h5⟩,fun b hb=>(h4 b hb).trans (h2 b ((h.box i _ h5 rfl).1.trans hb))⟩
theorem Env.Im.ext {E E':Env} (h:Ext E E') {b o:Nat} (k:E.Im b o) (hw:∀ b o,b<E.base→E.im0 b o→E.free b) :
  E'.Im b o∧E'.w.cell? ⟨b,o,none⟩=E.w.cell? ⟨b,o,none⟩:=by
 obtain ⟨hb,hk⟩:=k
 unfold Env.Im
 rw [h.base,h.im0]
 have hb':=Nat.lt_of_lt_of_le hb h.size
 rcases hk with ⟨h1,h2⟩|⟨h1,h2⟩|⟨h1,i,n,sz,t,hm,hs,ho⟩
 ·exact ⟨⟨hb',.inl ⟨h1,h2⟩⟩,(h.free b hb (hw b o h1 h2)).2.cell _ _⟩
 ·obtain ⟨f,e⟩:=h.free b hb h2
  exact ⟨⟨hb',.inr (.inl ⟨h1,f⟩)⟩,e.cell _ _⟩
 ·obtain ⟨n',hs',hn,_,hc⟩:=h.grow i n sz t hs
  obtain ⟨c,d⟩:=hc b hm
  refine ⟨⟨hb',?_⟩,c o ho⟩
  rcases d with d|d
  ·exact .inr (.inr ⟨h1,i,n',sz,t,d,hs',Nat.lt_of_lt_of_le ho (Nat.mul_le_mul_right _ hn)⟩)
  ·exact .inr (.inl ⟨h1,d⟩)
theorem add_form (ad:Addr) (j:Nat) (h:ad.spot=none):ad.add j=⟨ad.block,ad.off+j,none⟩:=by
 cases ad
 simp only at h
 subst h
 unfold Addr.add
 split
 ·next h=>subst h;rfl
 ·rfl
theorem Env.holds.ext {E E':Env} (h:Ext E E') (hw:∀ b o,b<E.base→E.im0 b o→E.free b) {ad:Addr} {j:Nat} {v:Value} (k:E.holds ad j v):E'.holds ad j v:=by
 obtain ⟨hs,hc,hi,ho⟩:=k
 obtain ⟨hi',hc'⟩:=hi.ext h hw
 rw [add_form ad j hs] at hc
 refine ⟨hs,?_,hi',ho⟩
 rw [add_form ad j hs,hc',hc]
theorem Env.tagOk.ext {E E':Env} (h:Ext E E') {sz n c:Nat} {tg:Tag} {a:Option Addr} (k:E.tagOk sz tg a n c):E'.tagOk sz tg a n c:=by
 cases tg with
 |any=>trivial
 |full=>exact k
 |lit =>
  refine ⟨k.1,fun ad ha=>?_⟩
  obtain ⟨h1,h2,h3,h4⟩:=k.2 ad ha
  exact ⟨h1,by rw [h.base];exact h2,Nat.lt_of_lt_of_le h3 h.size,(h.free _ h3 h4).1⟩
 |grow g =>
  obtain ⟨m,t,hs,hn,hh⟩:=k
  obtain ⟨m',hs',hm,he,_⟩:=h.grow g m sz t hs
  refine ⟨m',t,hs',Nat.le_trans hn hm,fun e=>?_⟩
  have e1:n=m:=by omega
  have e2:m=m':=by omega
  obtain ⟨hmu,hbl⟩:=he e2
  rcases hh e1 with ⟨hm0,hc⟩|⟨b,arr,hb,ha,hh,hsz⟩
  ·exact .inl ⟨hmu.trans hm0,hc⟩
  ·exact .inr ⟨b,arr,hmu.trans hb,ha,(hbl b hb).trans hh,hsz⟩
 |own g =>
  obtain ⟨m,t,hs,hn,hh⟩:=k
  obtain ⟨m',hs',hm,he,_⟩:=h.grow g m sz t hs
  refine ⟨m',t,hs',Nat.le_trans hn hm,fun e=>?_⟩
  have e1:n=m:=by omega
  have e2:m=m':=by omega
  obtain ⟨hmu,hbl⟩:=he e2
  rcases hh e1 with ⟨hm0,hc⟩|⟨b,arr,hb,ha,hh,hsz⟩
  ·exact .inl ⟨hmu.trans hm0,hc⟩
  ·exact .inr ⟨b,arr,hmu.trans hb,ha,(hbl b hb).trans hh,hsz⟩
theorem Env.roomOk.ext {E E':Env} (h:Ext E E') {g sz:Nat} {t:TypeId} {b c:Nat} (k:E.roomOk g sz t b c):E'.roomOk g sz t b c:=by
 obtain ⟨m,h1,h2⟩:=k
 obtain ⟨m',h3,h4,h5,_⟩:=h.grow g m sz t h1
 refine ⟨m',h3,fun e=>?_⟩
 obtain ⟨k1,k2⟩:=h5 (by omega)
 obtain ⟨q1,arr,q2,q3⟩:=h2 (by omega)
 exact ⟨k1.trans q1,arr,(k2 b q1).trans q2,q3⟩
theorem R.ext {G:Nat→Option AVal} {E E':Env} (hE:Wf G E) (h:Ext E E') {v:AVal} {x:Value} (k:R E v x):R E' v x:=by
 have bx:∀ i b:Nat,E.mu[i]? = some (some b)→(∃ x:ABox,E.S[i]? = some x∧x.isGrow=false)→E'.mu[i]? = some (some b)∧(∃ x:ABox,E'.S[i]? = some x∧x.isGrow=false):=by
  intro i b hm ⟨x,hx,hg⟩
  obtain ⟨e,y,hy,hyg⟩:=h.box i x hx hg
  exact ⟨e.trans hm,y,hy,hyg⟩
 induction k with
 |any x=>exact .any x
 |raw x=>exact .raw x
 |int k n=>exact .int k n
 |bool b=>exact .bool b
 |str s l h=>exact .str s l h
 |nilp=>exact .nilp
 |ptr i off b hm hb=>obtain ⟨h1,h2⟩:=bx i b hm hb;exact .ptr i off b h1 h2
 |cptr cs ad f hf hr ih=>exact .cptr cs ad f (fun j hj=>(hf j hj).ext h hE.im) ih
 |slnil sz tg ht=>exact .slnil sz tg (ht.ext h)
 |sl sz xs tg ad n c f hn hc hm hf hsz hr ht ih=>exact .sl sz xs tg ad n c f hn hc hm (fun j hj=>(hf j hj).ext h hE.im) hsz ih (ht.ext h)
 |view i off n cap b hnc hm hb=>obtain ⟨h1,h2⟩:=bx i b hm hb;exact .view i off n cap b hnc h1 h2
 |nilmap=>exact .nilmap
 |map i b hm hb=>obtain ⟨h1,h2⟩:=bx i b hm hb;exact .map i b h1 h2
 |fn f xs ys as bs h1 h2 hx hy ihx ihy=>exact .fn f xs ys as bs h1 h2 ihx ihy
 |nilfn=>exact .nilfn
 |ifc t v x hx ih=>exact .ifc t v x ih
 |nilifc=>exact .nilifc
 |agg cs as h1 hx ih=>exact .agg cs as h1 ih
 |tup cs as h1 hx ih=>exact .tup cs as h1 ih
 |yld i b hm hb=>obtain ⟨h1,h2⟩:=bx i b hm hb;exact .yld i b h1 h2
 |room g sz t n b c hn hm hr=>exact .room g sz t n b c hn hm (hr.ext h)
 |vrow i off n b c hnc hcm hm hb=>obtain ⟨h1,h2⟩:=bx i b hm hb;exact .vrow i off n b c hnc hcm h1 h2
 |ms i sz n b c hnc hcm hm hb hcp =>
  obtain ⟨h1,h2⟩:=bx i b hm hb
  refine .ms i sz n b c hnc hcm h1 h2 fun cs t k=>?_
  obtain ⟨x,hx,_⟩:=hb
  obtain ⟨⟨cs0,t0,r1⟩,r2⟩:=h.row i cs t k (List.getElem?_eq_some_iff.1 hx).1
  obtain ⟨arr,q,m,e1,e2⟩:=hcp cs0 t0 r1
  obtain ⟨arr',q',m',e3,e4⟩:=r2 b hm arr q m e1
  exact ⟨arr',q',m',e3,by rw [e4];exact e2⟩
end Go.Am
end
section
namespace Go.Am
open Go
def Fr.put (f:Fr) (d:Option Nat) (v:AVal):Fr :=
 match d with
 |some k=>(k,v)::f
 |none=>f
def markOf (r:Nat):Deferred:={ target:=.collected r,args := #[] }
def Marks (E:Env) (ds:List Deferred):Prop :=
 E.act≤E.w.heap.size∧∃ rs:List Nat,ds=rs.map markOf∧rs.Nodup∧∀ r∈rs,E.act≤r∧E.free r∧E.w.heap[r]? = some (.deferred (some []))
theorem Marks.nil {E:Env} (h:E.act≤E.w.heap.size):Marks E []:=⟨h,[],rfl,List.nodup_nil,fun r h=>by simp at h⟩
theorem heap_lt {w:World} {b:Nat} {o:Obj} (h:w.heap[b]? = some o):b<w.heap.size:=(Array.getElem?_eq_some_iff.1 h).1
theorem Marks.ext {E E':Env} {ds:List Deferred} (h:Ext E E') (k:Marks E ds):Marks E' ds:=by
 obtain ⟨h0,rs,h1,h2,h3⟩:=k
 refine ⟨by rw [h.act];exact Nat.le_trans h0 h.size,rs,h1,h2,fun r hr=>?_⟩
 obtain ⟨a,b,c⟩:=h3 r hr
 obtain ⟨f,e⟩:=h.free r (heap_lt c) b
 exact ⟨by rw [h.act];exact a,f,e.other c (fun _ _ _ h=>by cases h)⟩
structure RF (E:Env) (N:Nat) (f:Nat→AVal) (a:Act):Prop where
 size:a.tmps.size=N
 df:Marks E a.defers
 slot:∀ t,R E (f t) (a.tmps.getD t undef)
theorem RF.ext {G:Nat→Option AVal} {E E':Env} {N:Nat} {f:Nat→AVal} {a:Act} (hE:Wf G E) (h:Ext E E') (k:RF E N f a):RF E' N f a :=
 ⟨k.size,k.df.ext h,fun t=>(k.slot t).ext hE h⟩
def upd (f:Nat→AVal) (d:Option Nat) (v:AVal):Nat→AVal :=
 match d with
 |some k=>fun t=>if t=k then v else f t
 |none=>f
theorem Fr.get_put (f:Fr) (d:Option Nat) (v:AVal):(f.put d v).get=upd f.get d v:=by
 cases d<;>rfl
theorem RF.put {E:Env} {N:Nat} {f:Nat→AVal} {a:Act} {d:Option Nat} {v:AVal} {x:Value} (h:RF E N f a) (hd:∀ k,d=some k→k<N) (hv:R E v x) :
  RF E N (upd f d v) (a.put d x):=by
 cases d with
 |none=>exact h
 |some k =>
  have hk:=hd k rfl
  refine ⟨by simp [Act.put,h.size],h.df,fun t=>?_⟩
  simp only [upd,Act.put]
  by_cases e:t=k
  ·subst e
   rw [if_pos rfl]
   have hs:t<a.tmps.size:=by rw [h.size];exact hk
   simpa [Array.getD,hs] using hv
  ·rw [if_neg e]
   have hh:=h.slot t
   have:(a.tmps.setIfInBounds k x).getD t undef=a.tmps.getD t undef:=by
    simp only [Array.getD_eq_getD_getElem?]
    rw [Array.getElem?_setIfInBounds_ne (fun h=>e h.symm)]
   rw [this];exact hh
structure TI where
 d:TypeDesc
 size:Nat
 bytes:Nat
 zero:List AVal
def isAggD:TypeDesc→Bool
 |.struct _|.array _ _=>true
 |_=>false
def TI.isAgg (i:TI):Bool:=isAggD i.d
def ofCell:Value→AVal
 |.int k n=>.int k n
 |.bool b=>.bool b
 |.string s=>.str s.data.toList
 |.pointer none=>.nilp
 |.slice none 0 0=>.sl 1 true [] .any
 |.map none=>.nilmap
 |.nilFunc=>.nilfn
 |.nilIface=>.nilifc
 |v=>.raw v
theorem R.ofCell (E:Env) (v:Value):R E (ofCell v) v:=by
 unfold Am.ofCell
 split
 ·exact .int _ _
 ·exact .bool _
 ·exact .str _ _ rfl
 ·exact .nilp
 ·exact .slnil _ _ trivial
 ·exact .nilmap
 ·exact .nilfn
 ·exact .nilifc
 ·exact .raw _
def TI.ok (P:Program) (t:TypeId) (i:TI):Prop :=
 P.underlying t=some i.d∧∃ inf z,P.info? t=some inf∧inf.size=i.size∧inf.bytes=i.bytes∧inf.zero=some z ∧
  z.cells.toList.map Am.ofCell=i.zero∧z.cells.toList.length=i.size∧(z.cells.toList.all (·.oneCell'))=true ∧
  (match z with|.agg _=>true|_=>false)=i.isAgg∧(i.isAgg||i.size==1)=true
structure TOk (P:Program) (T:TypeId→Option TI):Prop where
 ok:∀ (t:TypeId) (i:TI),T t=some i→i.ok P t
 closed:∀ (t:TypeId) (i:TI) (fs:Array Field),T t=some i→i.d = .struct fs→∀ f∈fs.toList,(T f.type).isSome=true
def ofCells (i:TI) (cs:List AVal):AVal:=if i.isAgg then .agg cs else cs.headD .any
theorem run_isAgg {P:Program} {t:TypeId} {d:TypeDesc} (h:P.underlying t=some d) (w:World):(isAgg t).run P w = .ok (isAggD d) w:=by
 unfold isAgg
 rw [Sem.run_bind,run_underlying h w]
 cases d<;>rfl
theorem run_sizeOf {P:Program} {t:TypeId} {inf:TypeInfo} (h:P.info? t=some inf) (w:World):(sizeOf t).run P w = .ok inf.size w:=by
 simp [sizeOf,typeInfo,h]
def ROk (G:Nat→Option AVal) (E:Env) (S':St) (r:AVal) (res:Result Value):Prop :=
 ∃ E' x,res = .ok x E'.w∧Ext E E'∧Wf G E'∧E'.S=S'∧R E' r x
theorem ROk.pure {G:Nat→Option AVal} {E:Env} {r:AVal} {res:Result Value} {x:Value} (hE:Wf G E) (h:res = .ok x E.w) (hr:R E r x):ROk G E E.S r res :=
 ⟨E,x,h,Ext.refl E,hE,rfl,hr⟩
theorem R.int_inv {E:Env} {k:IntKind} {n:Int} {x:Value} (h:R E (.int k n) x):x = .int k n:=by cases h;rfl
theorem R.bool_inv {E:Env} {b:Bool} {x:Value} (h:R E (.bool b) x):x = .bool b:=by cases h;rfl
theorem R.cells {E:Env} {v:AVal} {x:Value} (h:R E v x) (hv:∀ y,v ≠ .any∧v ≠ .raw y):x.cells.size=v.cells.length∧∀ j (hj:j<v.cells.length),R E (v.cells[j]) (x.cells.getD j undef):=by
 cases h with
 |any=>exact absurd rfl (hv undef).1
 |raw=>exact absurd rfl (hv x).2
 |agg cs as h1 hx=>exact ⟨h1,hx⟩
 |_ =>
  refine ⟨rfl,fun j hj=>?_⟩
  simp only [AVal.cells,List.length_cons,List.length_nil] at hj
  have:j=0:=by omega
  subst this
  simp only [AVal.cells,Value.cells,List.getElem_cons_zero]
  first
   |exact .int _ _
   |exact .bool _
   |exact .str _ _ ‹_›
   |exact .nilp
   |exact .ptr _ _ _ ‹_› ‹_›
   |exact .cptr _ _ _ ‹_› ‹_›
   |exact .slnil _ _ ‹_›
   |exact .sl _ _ _ _ _ _ _ ‹_› ‹_› ‹_› ‹_› ‹_› ‹_› ‹_›
   |exact .view _ _ _ _ _ ‹_› ‹_› ‹_›
   |exact .nilmap
   |exact .map _ _ ‹_› ‹_›
   |exact .fn _ _ _ _ _ ‹_› ‹_› ‹_› ‹_›
   |exact .nilfn
   |exact .ifc _ _ _ ‹_›
   |exact .nilifc
   |exact .tup _ _ ‹_› ‹_›
   |exact .yld _ _ ‹_› ‹_›
   |exact .room _ _ _ _ _ _ ‹_› ‹_› ‹_›
   |exact .vrow _ _ _ _ _ ‹_› ‹_› ‹_› ‹_›
   |exact .ms _ _ _ _ _ ‹_› ‹_› ‹_› ‹_› ‹_›
def AVal.one:AVal→Bool
 |.any|.raw _|.agg _|.tup _=>false
 |_=>true
theorem R.one {E:Env} {v:AVal} {x:Value} (h:R E v x) (hv:v.one=true):x.oneCell'=true:=by
 cases h<;>first|rfl|(simp [AVal.one] at hv)
section
variable {G:Nat→Option AVal} {E:Env}
theorem entryOk.keep {E E':Env} (hE:Wf G E) (h:Ext E E') {i:Nat} {x:ABox} (k:entryOk E i x) (hm:E'.mu[i]? = E.mu[i]?)
  (hb:∀ b:Nat,E.mu[i]? = some (some b)→E'.w.heap[b]? = E.w.heap[b]?):entryOk E' i x:=by
 have hmp:∀ es c,mpOk E i es c→mpOk E' i es c:=by
  intro es c ⟨b,ms,h1,h2,h3,h4⟩
  exact ⟨b,ms,hm.trans h1,(hb b h1).trans h2,h3,fun j hj=>⟨(h4 j hj).1.ext hE h,(h4 j hj).2.1.ext hE h,(h4 j hj).2.2⟩⟩
 cases x with
 |cells cs t =>
  obtain ⟨b,arr,h1,h2,h3,h4⟩:=k
  exact ⟨b,arr,hm.trans h1,(hb b h1).trans h2,h3,fun j hj=>⟨(h4 j hj).1.ext hE h,(h4 j hj).2⟩⟩
 |row cs t =>
  obtain ⟨b,arr,h1,h2,h3,h4⟩:=k
  exact ⟨b,arr,hm.trans h1,(hb b h1).trans h2,h3,fun j hj=>⟨(h4 j hj).1.ext hE h,(h4 j hj).2⟩⟩
 |grow n sz t =>
  rcases k with k|⟨b,arr,h1,h2,h3,h4⟩
  ·exact .inl (hm.trans k)
  ·exact .inr ⟨b,arr,hm.trans h1,by rw [h.base];exact h2,(hb b h1).trans h3,h4⟩
 |dead=>trivial
 |frz o =>
  cases o with
  |none=>trivial
  |some es =>
   obtain ⟨c,es',hx,q⟩:=k
   exact ⟨c,es',hx,hmp es' c q⟩
 |mpx es c =>
  obtain ⟨es',hx,q⟩:=k
  exact ⟨es',hx,hmp es' c q⟩
 |hole=>trivial
 |siter s pos =>
  obtain ⟨b,ba,h1,h2,h3⟩:=k
  exact ⟨b,ba,hm.trans h1,(hb b h1).trans h2,h3⟩
 |mp es c =>
  obtain ⟨b,ms,h1,h2,h3,h4⟩:=k
  exact ⟨b,ms,hm.trans h1,(hb b h1).trans h2,h3,fun j hj=>⟨(h4 j hj).1.ext hE h,(h4 j hj).2.1.ext hE h,(h4 j hj).2.2⟩⟩
 |iter m since seen last =>
  obtain ⟨b,h1,h2⟩:=k
  refine ⟨b,hm.trans h1,?_⟩
  cases m with
  |none=>exact (hb b h1).trans h2
  |some q =>
   obtain ⟨c,k1,⟨x,kx,kg⟩,k3⟩:=h2
   obtain ⟨e,y,hy,hyg⟩:=h.box q x kx kg
   exact ⟨c,e.trans k1,⟨y,hy,hyg⟩,(hb b h1).trans k3⟩
 |loop fr N ps asg body st pend tag =>
  obtain ⟨b,r,h1,h2,h3,h4,h5,h6,h7,h8,h9⟩:=k
  exact ⟨b,r,hm.trans h1,(hb b h1).trans h2,h3,h4,h5,h6,h7,h8,fun t=>(h9 t).ext hE h⟩
theorem Wf.mu_lt (hE:Wf G E) {i b:Nat} (h:E.mu[i]? = some (some b)):i<E.S.length:=by
 rw [← hE.len]
 rcases Nat.lt_or_ge i E.mu.length with hlt|hge
 ·exact hlt
 ·rw [List.getElem?_eq_none hge] at h;cases h
theorem GL.ext {G:Nat→Option AVal} {E E':Env} {g:Nat} {v:AVal} (q:GL E g v) (hE:Wf G E) (hx:Ext E E'):GL E' g v:=by
 obtain ⟨arr,t,m,k1,k2⟩:=q.obj
 have hlt:g<E.w.heap.size:=by
  rcases Nat.lt_or_ge g E.w.heap.size with h|h
  ·exact h
  ·rw [Array.getElem?_eq_none h] at k1;cases k1
 obtain ⟨f1,f2⟩:=hx.free g hlt q.free
 obtain ⟨m',k3⟩:=f2.cells k1
 exact ⟨q.r.ext hE hx,f1,arr,t,m',k3,k2⟩
theorem env_grown (hE:Wf G E) {w':World} (hg:E.w.grownBy w' none):Ext E { E with w:=w' }∧Wf G { E with w:=w' }:=by
 have hblk:∀ b,b<E.w.heap.size→w'.heap[b]? = E.w.heap[b]?:=fun b hb=>hg.block b hb (by simp)
 have hx:Ext E { E with w:=w' } :=
  ⟨rfl,rfl,rfl,hg.size,hg.os,hg.tape,hg.output,Nat.le_refl _,fun b hb hf=>⟨hf,.inl (hblk b hb)⟩,fun i x h hx=>⟨rfl,x,h,hx⟩,
   fun i n sz t h=>⟨n,h,Nat.le_refl _,fun _=>⟨rfl,fun b hb=>hblk b (hE.lt i b hb)⟩,fun b hb=>⟨fun o _=>cell_same (hblk b (hE.lt i b hb)) _ _,.inl hb⟩⟩,fun i b _ h hm=>⟨h,hblk b (hE.lt i b hm)⟩,fun i cs t h _=>⟨⟨cs,t,h⟩,fun b hb=>.same (hblk b (hE.lt i b hb))⟩⟩
 refine ⟨hx,hE.len,hE.inj,fun i b h=>Nat.lt_of_lt_of_le (hE.lt i b h) hg.size,Nat.le_trans hE.base hg.size,hE.im,fun i x h=>?_,fun g v h=>(hE.glob g v h).ext hE hx⟩
 exact (hE.entry i x h).keep hE hx rfl fun b hb=>hblk b (hE.lt i b hb)
theorem env_push (hE:Wf G E) {w':World} (hg:E.w.grownBy w' none) (b:Nat) (hb:E.w.heap.size≤b) (hb':b<w'.heap.size) (x:ABox)
  (hx:Ext E { E with w:=w',mu:=E.mu++[some b],S:=E.S++[x] }→entryOk { E with w:=w',mu:=E.mu++[some b],S:=E.S++[x] } E.S.length x) :
  Ext E { E with w:=w',mu:=E.mu++[some b],S:=E.S++[x] }∧Wf G { E with w:=w',mu:=E.mu++[some b],S:=E.S++[x] }:=by
 have hblk:∀ b,b<E.w.heap.size→w'.heap[b]? = E.w.heap[b]?:=fun b hb=>hg.block b hb (by simp)
 have hmu:∀ i:Nat,i<E.S.length→(E.mu++[some b])[i]? = E.mu[i]?:=fun i hi=>List.getElem?_append_left (by rw [hE.len];exact hi)
 have hS:∀ (i:Nat),i<E.S.length→(E.S++[x])[i]? = E.S[i]?:=fun i hi=>List.getElem?_append_left hi
 have lt_of:∀ (i:Nat) (y:ABox),E.S[i]? = some y→i<E.S.length:=fun i y h=>by
  rcases Nat.lt_or_ge i E.S.length with hlt|hge
  ·exact hlt
  ·rw [List.getElem?_eq_none hge] at h;cases h
 have hxt:Ext E { E with w:=w',mu:=E.mu++[some b],S:=E.S++[x] }:=by
  refine ⟨rfl,rfl,rfl,hg.size,hg.os,hg.tape,hg.output,by simp,fun c hc hf=>⟨fun i=>?_,.inl (hblk c hc)⟩,fun i y h hy=>⟨hmu i (lt_of i y h),y,(hS i (lt_of i y h)).trans h,hy⟩,
   fun i n sz t h=>⟨n,(hS i (lt_of i _ h)).trans h,Nat.le_refl _,fun _=>⟨hmu i (lt_of i _ h),fun c hc=>hblk c (hE.lt i c hc)⟩,
    fun c hc=>⟨fun o _=>cell_same (hblk c (hE.lt i c hc)) _ _,.inl ((hmu i (lt_of i _ h)).trans hc)⟩⟩,fun i c _ h hc=>⟨(hS i (lt_of i _ h)).trans h,hblk c (hE.lt i c hc)⟩,fun i cs t h hi=>⟨⟨cs,t,(hS i hi).symm.trans h⟩,fun c hc=>.same (hblk c (hE.lt i c hc))⟩⟩
  show (E.mu++[some b])[i]? ≠ some (some c)
  rw [List.getElem?_append]
  split
  ·exact hf i
  ·intro h
   have:(some b)=some c:=by
    rcases hi:i-E.mu.length with _|k
    ·rw [hi] at h;simpa using h
    ·rw [hi] at h;simp at h
   injection this with this
   omega
 have hmem:∀ (i c:Nat),(E.mu++[some b])[i]? = some (some c)→(i<E.S.length∧E.mu[i]? = some (some c))∨(i=E.S.length∧c=b):=by
  intro i c h
  rw [List.getElem?_append] at h
  split at h
  ·exact .inl ⟨by rw [← hE.len];assumption,h⟩
  ·rcases hi:i-E.mu.length with _|k
   ·rw [hi] at h
    refine .inr ⟨by rw [← hE.len];omega,?_⟩
    simp at h;exact h.symm
   ·rw [hi] at h;simp at h
 refine ⟨hxt,by simp [hE.len],fun i j c h1 h2 d=>?_,fun i c h=>?_,Nat.le_trans hE.base hg.size,fun c o hc ho=>(hxt.free c (Nat.lt_of_lt_of_le hc hE.base) (hE.im c o hc ho)).1,fun i y h=>?_,fun g v h=>(hE.glob g v h).ext hE hxt⟩
 ·rcases hmem i c h1 with ⟨l1,m1⟩|⟨e1,c1⟩<;>rcases hmem j c h2 with ⟨l2,m2⟩|⟨e2,c2⟩
  ·exact hE.inj i j c m1 m2 fun e=>d (share_push l1 l2 e)
  ·have:=hE.lt i c m1;omega
  ·have:=hE.lt j c m2;omega
  ·omega
 ·rcases hmem i c h with ⟨l1,m1⟩|⟨e1,c1⟩
  ·exact Nat.lt_of_lt_of_le (hE.lt i c m1) hg.size
  ·show c<w'.heap.size;omega
 ·have h':(E.S++[x])[i]? = some y:=h
  rw [List.getElem?_append] at h'
  split at h'
  ·next hl=>exact (hE.entry i y h').keep hE hxt (hmu i hl) fun c hc=>hblk c (hE.lt i c hc)
  ·next hl =>
   rcases hi:i-E.S.length with _|k
   ·rw [hi] at h'
    simp at h'
    subst h'
    have:i=E.S.length:=by omega
    subst this
    exact hx hxt
   ·rw [hi] at h';simp at h'
theorem env_set (hE:Wf G E) {w':World} {i b:Nat} (hm:E.mu[i]? = some (some b)) (hg:E.w.grownBy w' (some b)) (x y:ABox) (hx:E.S[i]? = some x) (hxg:x.isGrow=false) (hyg:y.isGrow=false)
  (hy:Ext E { E with w:=w',S:=E.S.set i y }→entryOk { E with w:=w',S:=E.S.set i y } i y) (hxf:∀ o,x ≠ .frz o:=by nofun) (hxd:x ≠ .dead:=by nofun) (hxr:x.rd=true→y.rd=true:=by first|exact fun _=>rfl|exact fun h=>(by cases h))
  (hrw:(∀ cs t,y ≠ .row cs t)∨((∃ cs t,x = .row cs t)∧KeptSz E.w w' b):=by first|exact .inl (by nofun)) :
  Ext E { E with w:=w',S:=E.S.set i y }∧Wf G { E with w:=w',S:=E.S.set i y }:=by
 have hi:=hE.mu_lt hm
 have hblk:∀ c,c<E.w.heap.size→c≠b→w'.heap[c]? = E.w.heap[c]?:=fun c hc hne=>hg.block c hc (by simpa using hne)
 have hother:∀ (j c:Nat) (z:ABox),j≠i→E.mu[j]? = some (some c)→E.S[j]? = some z→z ≠ .dead→w'.heap[c]? = E.w.heap[c]?:=fun j c z hj h hz hd =>
  hblk c (hE.lt j c h) (fun e=>hj (hE.one (e▸h) hm hz hx hd hxd))
 have hxt:Ext E { E with w:=w',S:=E.S.set i y }:=by
  refine ⟨rfl,rfl,rfl,hg.size,hg.os,hg.tape,hg.output,by simp,fun c hc hf=>⟨hf,.inl (hblk c hc (fun e=>hf i (e▸hm)))⟩,fun j z h hz=>⟨rfl,?_⟩,fun j n sz t h=>?_,fun j c o h hc=>?_,fun j cs t h hj=>?_⟩
  ·by_cases e:i=j
   ·subst e;exact ⟨y,by simp [hi],hyg⟩
   ·exact ⟨z,by simp [List.getElem?_set_ne e,h],hz⟩
  ·have e:i≠j:=by
    rintro rfl
    rw [hx] at h;injection h with h;subst h;simp [ABox.isGrow] at hxg
   exact ⟨n,by simp [List.getElem?_set_ne e,h],Nat.le_refl _,fun _=>⟨rfl,fun c hc=>hother j c _ (Ne.symm e) hc h nofun⟩,fun c hc=>⟨fun o _=>cell_same (hother j c _ (Ne.symm e) hc h nofun) _ _,.inl hc⟩⟩
  ·have e:i≠j:=by
    rintro rfl
    rw [hx] at h;injection h with h;exact hxf o h
   exact ⟨(List.getElem?_set_ne e).trans h,hother j c _ (Ne.symm e) hc h nofun⟩
  ·by_cases e:i=j
   ·subst e
    have hh:y = .row cs t:=by simpa [hi] using h
    rcases hrw with k|⟨⟨cs0,t0,k⟩,k2⟩
    ·exact absurd hh (k cs t)
    ·refine ⟨⟨cs0,t0,k▸hx⟩,fun c hc=>?_⟩
     have:c=b:=by rw [hm] at hc;injection hc with hc;injection hc with hc;exact hc.symm
     rw [this];exact k2
   ·have h':E.S[j]? = some (.row cs t):=(List.getElem?_set_ne e).symm.trans h
    exact ⟨⟨cs,t,h'⟩,fun c hc=>.same (hother j c _ (Ne.symm e) hc h' nofun)⟩
 refine ⟨hxt,by simp [hE.len],fun j j' c h1 h2 d=>hE.inj j j' c h1 h2 fun e=>d (share_set hx hxr hxd e),fun j c h=>Nat.lt_of_lt_of_le (hE.lt j c h) hg.size,Nat.le_trans hE.base hg.size,hE.im,fun j z h=>?_,fun g v h=>(hE.glob g v h).ext hE hxt⟩
 by_cases e:i=j
 ·subst e
  have:z=y:=by simpa [hi] using h.symm
  subst this
  exact hy hxt
 ·have h':E.S[j]? = some z:=by simpa [List.getElem?_set_ne e] using h
  by_cases hd:z = .dead
  ·subst hd;trivial
  ·exact (hE.entry j z h').keep hE hxt rfl fun c hc=>hother j c z (Ne.symm e) hc h' hd
end
end Go.Am
end
