/- The abstract layer: functions that leave all as it was. -/
import Derived.Test.YteemcehaekffeaaGreatAmCode
set_option linter.unusedVariables false
set_option linter.unusedSimpArgs false
section
namespace Go.Am
open Go
noncomputable section
open Classical
inductive Closed:AVal→Prop
 |any:Closed .any
 |raw (v:Value):Closed (.raw v)
 |int (k:IntKind) (n:Int):Closed (.int k n)
 |bool (b:Bool):Closed (.bool b)
 |str (s:List UInt8):Closed (.str s)
 |nilp:Closed .nilp
 |cptr (cs:List AVal) (h:∀ c∈cs,Closed c):Closed (.cptr cs)
 |sl (sz:Nat) (nl:Bool) (xs:List AVal) (tg:Tag) (ht:∀ g,tg ≠ .grow g∧tg ≠ .own g∧tg ≠ .lit) (h:∀ x∈xs,Closed x):Closed (.sl sz nl xs tg)
 |nilmap:Closed .nilmap
 |fn (f:Fn) (as bs:List AVal) (h1:∀ x∈as,Closed x) (h2:∀ x∈bs,Closed x):Closed (.fn f as bs)
 |nilfn:Closed .nilfn
 |ifc (t:TypeId) (v:AVal) (h:Closed v):Closed (.ifc t v)
 |nilifc:Closed .nilifc
 |agg (cs:List AVal) (h:∀ c∈cs,Closed c):Closed (.agg cs)
 |tup (cs:List AVal) (h:∀ c∈cs,Closed c):Closed (.tup cs)
theorem Closed.cells {v:AVal} (h:Closed v):∀ c∈v.cells,Closed c:=by
 cases h with
 |agg cs h=>exact h
 |_ =>
  intro c hc
  simp only [AVal.cells,List.mem_singleton] at hc
  subst hc
  first
   |exact .any|exact .raw _|exact .int _ _|exact .bool _|exact .str _|exact .nilp|exact .cptr _ ‹_› | exact .sl _ _ _ _ ‹_› ‹_› | exact .nilmap
   |exact .fn _ _ _ ‹_› ‹_› | exact .nilfn|exact .ifc _ _ ‹_› | exact .nilifc|exact .tup _ ‹_›
@[simp] theorem closed_any:Closed .any↔True:=⟨fun _=>trivial,fun _=>.any⟩
@[simp] theorem closed_int (k:IntKind) (n:Int):Closed (.int k n)↔True:=⟨fun _=>trivial,fun _=>.int k n⟩
@[simp] theorem closed_bool (b:Bool):Closed (.bool b)↔True:=⟨fun _=>trivial,fun _=>.bool b⟩
@[simp] theorem closed_str (s:List UInt8):Closed (.str s)↔True:=⟨fun _=>trivial,fun _=>.str s⟩
@[simp] theorem closed_nilp:Closed .nilp↔True:=⟨fun _=>trivial,fun _=>.nilp⟩
@[simp] theorem closed_nilfn:Closed .nilfn↔True:=⟨fun _=>trivial,fun _=>.nilfn⟩
@[simp] theorem closed_nilifc:Closed .nilifc↔True:=⟨fun _=>trivial,fun _=>.nilifc⟩
@[simp] theorem closed_nilmap:Closed .nilmap↔True:=⟨fun _=>trivial,fun _=>.nilmap⟩
@[simp] theorem closed_sl_any (sz:Nat) (nl:Bool) (xs:List AVal):Closed (.sl sz nl xs .any)↔∀ x∈xs,Closed x :=
 ⟨fun h=>by cases h;assumption,fun h=>.sl _ _ _ _ (by intro g;exact ⟨nofun,nofun,nofun⟩) h⟩
@[simp] theorem closed_sl_full (sz:Nat) (nl:Bool) (xs:List AVal):Closed (.sl sz nl xs .full)↔∀ x∈xs,Closed x :=
 ⟨fun h=>by cases h;assumption,fun h=>.sl _ _ _ _ (by intro g;exact ⟨nofun,nofun,nofun⟩) h⟩
@[simp] theorem closed_agg (cs:List AVal):Closed (.agg cs)↔∀ x∈cs,Closed x:=⟨fun h=>by cases h;assumption,fun h=>.agg _ h⟩
@[simp] theorem closed_tup (cs:List AVal):Closed (.tup cs)↔∀ x∈cs,Closed x:=⟨fun h=>by cases h;assumption,fun h=>.tup _ h⟩
@[simp] theorem closed_cptr (cs:List AVal):Closed (.cptr cs)↔∀ x∈cs,Closed x:=⟨fun h=>by cases h;assumption,fun h=>.cptr _ h⟩
@[simp] theorem closed_ifc (t:TypeId) (v:AVal):Closed (.ifc t v)↔Closed v:=⟨fun h=>by cases h;assumption,fun h=>.ifc _ _ h⟩
@[simp] theorem closed_fn (f:Fn) (as bs:List AVal):Closed (.fn f as bs)↔(∀ x∈as,Closed x)∧∀ x∈bs,Closed x:=⟨fun h=>by cases h;exact ⟨‹_›,‹_›⟩,fun h=>.fn _ _ _ h.1 h.2⟩
@[simp] theorem closed_bv (b:UInt8):Closed (bv b)↔True:=closed_int _ _
@[simp] theorem closed_bl (l:List UInt8):(∀ x∈bl l,Closed x)↔True:=⟨fun _=>trivial,fun _ x hx=>by obtain ⟨b,_,rfl⟩:=List.mem_map.1 hx;exact .int _ _⟩
structure Sees (E E':Env):Prop where
 cell:∀ b o,E.Im b o→E'.Im b o∧E'.w.cell? ⟨b,o,none⟩=E.w.cell? ⟨b,o,none⟩
theorem Sees.holds {E E':Env} (h:Sees E E') {ad:Addr} {j:Nat} {v:Value} (k:E.holds ad j v):E'.holds ad j v:=by
 obtain ⟨h1,h2,h3,h4⟩:=k
 obtain ⟨c1,c2⟩:=h.cell _ _ h3
 rw [add_form ad j h1] at h2
 refine ⟨h1,?_,c1,h4⟩
 rw [add_form ad j h1,c2,h2]
theorem Closed.move {E E':Env} (h:Sees E E') {v:AVal} {x:Value} (k:R E v x) (hc:Closed v):R E' v x:=by
 induction k with
 |any x=>exact .any x
 |raw x=>exact .raw x
 |int k n=>exact .int k n
 |bool b=>exact .bool b
 |str s l h=>exact .str s l h
 |nilp=>exact .nilp
 |ptr=>cases hc
 |cptr cs ad f hf hr ih =>
  cases hc with
  |cptr _ hc=>exact .cptr cs ad f (fun j hj=>h.holds (hf j hj)) fun j hj=>ih j hj (hc _ (List.getElem_mem hj))
 |slnil sz tg ht =>
  cases hc with
  |sl _ _ _ _ hg _ =>
   refine .slnil sz tg ?_
   cases tg with
   |any=>trivial
   |full=>exact ht
   |lit=>exact absurd rfl (hg 0).2.2
   |grow g=>exact absurd rfl (hg g).1
   |own g=>exact absurd rfl (hg g).2.1
 |sl sz xs tg ad n c f hn hcc hm hf hsz hr ht ih =>
  cases hc with
  |sl _ _ _ _ hg hx =>
   refine .sl sz xs tg ad n c f hn hcc hm (fun j hj=>h.holds (hf j hj)) hsz (fun k hk j hj=>ih k hk j hj ((hx _ (List.getElem_mem hk)).cells _ (List.getElem_mem hj))) ?_
   cases tg with
   |any=>trivial
   |full=>exact ht
   |lit=>exact absurd rfl (hg 0).2.2
   |grow g=>exact absurd rfl (hg g).1
   |own g=>exact absurd rfl (hg g).2.1
 |view=>cases hc
 |vrow=>cases hc
 |ms=>cases hc
 |yld=>cases hc
 |room=>cases hc
 |nilmap=>exact .nilmap
 |map=>cases hc
 |fn f xs ys as bs h1 h2 hx hy ihx ihy =>
  cases hc with
  |fn _ _ _ c1 c2=>exact .fn f xs ys as bs h1 h2 (fun j hj=>ihx j hj (c1 _ (List.getElem_mem hj))) fun j hj=>ihy j hj (c2 _ (List.getElem_mem hj))
 |nilfn=>exact .nilfn
 |ifc t v x hx ih =>
  cases hc with
  |ifc _ _ c=>exact .ifc t v x (ih c)
 |nilifc=>exact .nilifc
 |agg cs as h1 hx ih =>
  cases hc with
  |agg _ c=>exact .agg cs as h1 fun j hj=>ih j hj (c _ (List.getElem_mem hj))
 |tup cs as h1 hx ih =>
  cases hc with
  |tup _ c=>exact .tup cs as h1 fun j hj=>ih j hj (c _ (List.getElem_mem hj))
def era:AVal→AVal
 |.sl sz nl xs _=>.sl sz nl xs .any
 |.tup vs=>.tup (vs.map fun v=>match v with|.sl sz nl xs _=>.sl sz nl xs .any|v=>v)
 |v=>v
theorem R.sl_any {E:Env} {sz:Nat} {nl:Bool} {xs:List AVal} {tg:Tag} {x:Value} (h:R E (.sl sz nl xs tg) x):R E (.sl sz nl xs .any) x:=by
 cases h with
 |slnil=>exact .slnil _ _ trivial
 |sl _ _ _ ad n c f hn hc hm hf hcs hr ht=>exact .sl _ _ _ ad n c f hn hc hm hf hcs hr trivial
theorem R.era {E:Env} {v:AVal} {x:Value} (h:R E v x):R E (era v) x:=by
 cases v<;>try (exact h)
 case sl sz nl xs tg=>exact h.sl_any
 case tup vs =>
  cases h with
  |tup _ as h1 hx =>
   refine .tup _ as (by simp [h1]) fun j hj=>?_
   simp only [List.length_map] at hj
   have:=hx j hj
   simp only [List.getElem_map]
   split
   ·next he=>rw [he] at this;exact this.sl_any
   ·exact this
inductive Plain:AVal→Prop
 |int (k:IntKind) (n:Int):Plain (.int k n)
 |bool (b:Bool):Plain (.bool b)
 |str (s:List UInt8):Plain (.str s)
 |nilp:Plain .nilp
 |nilmap:Plain .nilmap
 |nilfn:Plain .nilfn
 |nilifc:Plain .nilifc
 |raw (v:Value):Plain (.raw v)
 |slnil (sz:Nat):Plain (.sl sz true [] .any)
 |agg (cs:List AVal) (h:∀ c∈cs,Plain c):Plain (.agg cs)
 |tup (cs:List AVal) (h:∀ c∈cs,Plain c):Plain (.tup cs)
theorem Plain.move {E E':Env} {v:AVal} {x:Value} (k:R E v x) (hp:Plain v):R E' v x:=by
 induction k with
 |any x=>exact .any x
 |raw x=>exact .raw x
 |int k n=>exact .int k n
 |bool b=>exact .bool b
 |str s l h=>exact .str s l h
 |nilp=>exact .nilp
 |nilmap=>exact .nilmap
 |nilfn=>exact .nilfn
 |nilifc=>exact .nilifc
 |slnil sz tg ht=>cases hp;exact .slnil _ _ trivial
 |sl=>cases hp
 |agg cs as h1 hx ih =>
  cases hp with
  |agg _ hp=>exact .agg cs as h1 fun j hj=>ih j hj (hp _ (List.getElem_mem hj))
 |tup cs as h1 hx ih =>
  cases hp with
  |tup _ hp=>exact .tup cs as h1 fun j hj=>ih j hj (hp _ (List.getElem_mem hj))
 |_=>cases hp
@[simp] theorem plain_int (k:IntKind) (n:Int):Plain (.int k n)↔True:=⟨fun _=>trivial,fun _=>.int k n⟩
@[simp] theorem plain_bool (b:Bool):Plain (.bool b)↔True:=⟨fun _=>trivial,fun _=>.bool b⟩
@[simp] theorem plain_str (s:List UInt8):Plain (.str s)↔True:=⟨fun _=>trivial,fun _=>.str s⟩
@[simp] theorem plain_nilp:Plain .nilp↔True:=⟨fun _=>trivial,fun _=>.nilp⟩
@[simp] theorem plain_nilifc:Plain .nilifc↔True:=⟨fun _=>trivial,fun _=>.nilifc⟩
@[simp] theorem plain_agg (cs:List AVal):Plain (.agg cs)↔∀ x∈cs,Plain x:=⟨fun h=>by cases h;assumption,fun h=>.agg _ h⟩
@[simp] theorem plain_tup (cs:List AVal):Plain (.tup cs)↔∀ x∈cs,Plain x:=⟨fun h=>by cases h;assumption,fun h=>.tup _ h⟩
@[simp] theorem plain_bl (l:List UInt8):(∀ x∈bl l,Plain x)↔True:=⟨fun _=>trivial,fun _ x hx=>by obtain ⟨b,_,rfl⟩:=List.mem_map.1 hx;exact .int _ _⟩
def env0 (w:World) (im0:Nat→Nat→Prop):Env:=⟨w,[],[],w.heap.size,im0,w.heap.size⟩
structure APure (C:Cx) (f:FuncId) (args:List AVal) (r:AVal):Prop where
 callable:∃ fn,C.P.funcs[f]? = some fn∧fn.body.isSome=true∧(fn.name == "runtime.NumGoroutine")=false
 ok:∀ (w:World) (im0:Nat→Nat→Prop) (vs:Array Value),Wf C.G (env0 w im0)→vs.size=args.length→(∀ j (h:j<args.length),R (env0 w im0) args[j] (vs.getD j undef)) →
  Calls C.P f vs w fun e w'=>∃ v,e = .returned v∧w.grownBy w' none∧R ⟨w',[],[],w.heap.size,im0,w.heap.size⟩ r v
theorem Ext.grown {E E':Env} (h:Ext E E') (hmu:E.mu=[]) (hb:E.w.heap.size≤E.base):E.w.grownBy E'.w none :=
 ⟨h.os,h.tape,h.output,h.size,fun k hk _=>(h.free k hk (fun i=>by rw [hmu];simp)).2.old (Nat.lt_of_lt_of_le hk hb)⟩
theorem apure_intro {C:Cx} {N:Nat} (hC:C.Ok) {f:FuncId} {l:LC} {rs:List ResultVar} (hf:FnOk C f l N rs) (p:FuncId→Bool) (q:Nat→Option UL) (hb:BodyOk C f p q) {args:List AVal} (hlen:args.length≤N) {r:AVal}
  (h:aC (C.wp p q) N l (fun e fr T=>isRet e∧match aRes C fr T rs with|some (sd,v)=>sd∧era v=r∧Closed r|none=>False) (frame0 args) []):APure C f args r:=by
 refine ⟨hf.callable,fun w im0 vs hE hvs hr=>?_⟩
 refine (calls_body hC hf p q hb hlen (S:=[]) (K:=fun v _=>era v=r∧Closed r) h (env0 w im0) vs hE rfl hvs hr).mono ?_
 rintro e w' ⟨E',x,v,h1,rfl,h3,h4,h5,h6,h7⟩
 refine ⟨x,h1,h4.grown rfl (Nat.le_refl _),?_⟩
 have hs:Sees E' ⟨E'.w,[],[],w.heap.size,im0,w.heap.size⟩:=by
  refine ⟨fun b o hi=>⟨⟨hi.1,?_⟩,rfl⟩⟩
  have hbase:E'.base=w.heap.size:=h4.base
  have him:E'.im0=im0:=h4.im0
  have h2:=hi.2
  rw [hbase,him] at h2
  rcases h2 with h2|h2|h2
  ·exact .inl h2
  ·exact .inr (.inl ⟨h2.1,fun i=>by simp⟩)
  ·exact .inr (.inl ⟨h2.1,fun i=>by simp⟩)
 have:=h5.era
 rw [h6] at this
 exact h7.move hs this
theorem R.move0 {E E':Env} (h:Sees E E') (hS:E.S=[]) (hl:∀ b,E.base≤b→b<E.w.heap.size→E.free b→E'.base≤b∧b<E'.w.heap.size∧E'.free b) {v:AVal} {x:Value} (k:R E v x):R E' v x:=by
 have tg:∀ {sz:Nat} {t:Tag} {a:Option Addr} {n c:Nat},E.tagOk sz t a n c→E'.tagOk sz t a n c:=by
  intro sz t a n c ht
  cases t with
  |any=>trivial
  |full=>exact ht
  |lit=>exact ⟨ht.1,fun ad ha=>by obtain ⟨h1,h2,h3,h4⟩:=ht.2 ad ha;exact ⟨h1,hl _ h2 h3 h4⟩⟩
  |grow g =>
   obtain ⟨m,t,hs,_⟩:=ht
   rw [hS] at hs
   simp at hs
  |own g =>
   obtain ⟨m,t,hs,_⟩:=ht
   rw [hS] at hs
   simp at hs
 induction k with
 |any x=>exact .any x
 |raw x=>exact .raw x
 |int k n=>exact .int k n
 |bool b=>exact .bool b
 |str s l h=>exact .str s l h
 |nilp=>exact .nilp
 |ptr i off b hm hb=>obtain ⟨x,hx,_⟩:=hb;rw [hS] at hx;simp at hx
 |cptr cs ad f hf hr ih=>exact .cptr cs ad f (fun j hj=>h.holds (hf j hj)) ih
 |slnil sz t ht=>exact .slnil sz t (tg ht)
 |sl sz xs t ad n c f hn hcc hm hf hsz hr ht ih=>exact .sl sz xs t ad n c f hn hcc hm (fun j hj=>h.holds (hf j hj)) hsz ih (tg ht)
 |view i off n cap b hnc hm hb=>obtain ⟨x,hx,_⟩:=hb;rw [hS] at hx;simp at hx
 |vrow i off n b c hnc hcm hm hb=>obtain ⟨x,hx,_⟩:=hb;rw [hS] at hx;simp at hx
 |ms i sz n b c hnc hcm hm hb=>obtain ⟨x,hx,_⟩:=hb;rw [hS] at hx;simp at hx
 |yld i b hm hb=>obtain ⟨x,hx,_⟩:=hb;rw [hS] at hx;simp at hx
 |room g sz t n b c hn hm hr=>obtain ⟨m,hs,_⟩:=hr;rw [hS] at hs;simp at hs
 |nilmap=>exact .nilmap
 |map i b hm hb=>obtain ⟨x,hx,_⟩:=hb;rw [hS] at hx;simp at hx
 |fn f xs ys as bs h1 h2 hx hy ihx ihy=>exact .fn f xs ys as bs h1 h2 ihx ihy
 |nilfn=>exact .nilfn
 |ifc t v x hx ih=>exact .ifc t v x ih
 |nilifc=>exact .nilifc
 |agg cs as h1 hx ih=>exact .agg cs as h1 ih
 |tup cs as h1 hx ih=>exact .tup cs as h1 ih
def GClosed (C:Cx):Prop:=∀ g v,C.G g=some v→Closed v
theorem APure.call {C:Cx} (hG:GClosed C) {f:FuncId} {args as:List AVal} {r:AVal} (h:APure C f args r) (he:args=as.map era) (hc:∀ a∈args,Closed a) (S:St):ACall C f as S r S:=by
 refine ⟨h.callable,fun E vs hE hS hvs hr=>?_⟩
 have hsee:Sees E (env0 E.w E.Im):=⟨fun b o hi=>⟨⟨hi.1,.inl ⟨hi.1,hi⟩⟩,rfl⟩⟩
 have hE0:Wf C.G (env0 E.w E.Im) :=
  ⟨rfl,fun i j b h=>by simp [env0] at h,fun i b h=>by simp [env0] at h,Nat.le_refl _,fun b o _ _ i=>by simp [env0],fun i x h=>by simp [env0] at h,
   fun g v hg=>⟨(hG g v hg).move hsee (hE.glob g v hg).r,fun i=>by simp [env0],(hE.glob g v hg).obj⟩⟩
 refine (h.ok E.w E.Im vs hE0 (by rw [hvs,he];simp) (fun j hj=>?_)).mono ?_
 ·have hj':j<as.length:=by rw [he] at hj;simpa using hj
  have e:args[j]=era as[j]:=by simp [he]
  have:=(hr j hj').era
  rw [← e] at this
  exact (hc _ (List.getElem_mem hj)).move hsee this
 ·rintro e w' ⟨v,h1,h2,h3⟩
  obtain ⟨k1,k2⟩:=env_grown hE h2
  refine ⟨_,v,h1,rfl,k2,k1,hS,?_⟩
  have hsee2:Sees ⟨w',[],[],E.w.heap.size,E.Im,E.w.heap.size⟩ { E with w:=w' }:=⟨fun b o hi=>⟨⟨hi.1,?_⟩,rfl⟩⟩
  ·refine R.move0 hsee2 rfl (fun b h1 h2 _=>⟨Nat.le_trans hE.base h1,h2,fun i hi=>?_⟩) h3
   have h1:E.w.heap.size≤b:=h1
   have:=hE.lt i b hi
   omega
  rcases hi.2 with ⟨_,hi2⟩|⟨hi1,_⟩|⟨_,i,_,_,_,hm,_⟩
  ·exact (Env.Im.ext k1 hi2 hE.im).1.2
  ·have hsz:E.w.heap.size≤b:=hi1
   refine .inr (.inl ⟨Nat.le_trans hE.base hsz,fun i hi=>?_⟩)
   have:=hE.lt i b hi
   omega
  ·simp at hm
theorem APure.callX {C:Cx} (hG:GClosed C) {f:FuncId} {args as:List AVal} {r:AVal} (h:APure C f args r) (he:args=as.map era) (hc:∀ a∈args,Closed a) (S:St):CallX C f as S r S :=
 ⟨.inl (h.call hG he hc S),fun _=>⟨rfl,fun U=>.inl (h.call hG he hc U)⟩⟩
end
end Go.Am
end
section
namespace Go.Am
open Go
noncomputable section
open Classical
def basicOk (P:Program) (n:Nat) (t:TypeId):Bool :=
 decide (t<n)&&match P.underlying t,P.info? t with
 |some d,some inf=>match inf.zero with
  |some z=>(z.cells.toList.length==inf.size)&&z.cells.toList.all (·.oneCell')&&((match z with|.agg _=>true|_=>false)==isAggD d)&&(isAggD d||inf.size==1)
  |none=>false
 |_,_=>false
def cT (P:Program) (t:TypeId):Option TI :=
 match P.underlying t,P.info? t with
 |some d,some inf=>match inf.zero with
  |some z=>some ⟨d,inf.size,inf.bytes,z.cells.toList.map ofCell⟩
  |none=>none
 |_,_=>none
def tyB (P:Program) (n:Nat) (t:TypeId):Option TI:=if basicOk P n t=true then cT P t else none
def fieldsB (P:Program) (n:Nat) (t:TypeId):Bool :=
 match P.underlying t with
 |some (.struct fs)=>fs.toList.all fun f=>basicOk P n f.type
 |_=>true
def closedB (P:Program) (n:Nat):Bool:=(List.range n).all fun t => !basicOk P n t||fieldsB P n t
theorem tyB_some {P:Program} {n:Nat} {t:TypeId} {i:TI} (h:tyB P n t=some i):basicOk P n t=true∧i.ok P t:=by
 unfold tyB at h
 split at h
 ·next hb =>
  refine ⟨hb,?_⟩
  unfold cT at h
  split at h
  ·next d inf hu hinf =>
   split at h
   ·next z hz =>
    injection h with h
    subst h
    simp only [basicOk,hu,hinf,hz,Bool.and_eq_true,beq_iff_eq,Bool.or_eq_true] at hb
    obtain ⟨_,⟨⟨h1,h2⟩,h3⟩,h4⟩:=hb
    refine ⟨hu,inf,z,hinf,rfl,rfl,hz,rfl,h1,h2,h3,?_⟩
    simp only [TI.isAgg,Bool.or_eq_true,beq_iff_eq]
    exact h4
   ·cases h
  ·cases h
 ·cases h
theorem tyB_isSome {P:Program} {n:Nat} {t:TypeId} (h:basicOk P n t=true):(tyB P n t).isSome=true:=by
 unfold tyB
 rw [if_pos h]
 unfold basicOk at h
 unfold cT
 simp only [Bool.and_eq_true] at h
 have h:=h.2
 split at h
 ·split at h
  ·rfl
  ·cases h
 ·cases h
theorem tyB_ok {P:Program} {n:Nat} (h:closedB P n=true):TOk P (tyB P n):=by
 refine ⟨fun t i h=>(tyB_some h).2,fun t i fs ht hd f hfm=>?_⟩
 obtain ⟨hb,hi⟩:=tyB_some ht
 have hlt:t<n:=by
  unfold basicOk at hb
  simp only [Bool.and_eq_true,decide_eq_true_eq] at hb
  exact hb.1
 have h1:=List.all_eq_true.1 h t (List.mem_range.2 hlt)
 rw [hb] at h1
 simp only [Bool.not_true,Bool.false_or] at h1
 have hu:=hi.1
 rw [hd] at hu
 unfold fieldsB at h1
 rw [hu] at h1
 exact tyB_isSome (List.all_eq_true.1 h1 f hfm)
theorem cells_of {P:Program} {n:Nat} (t:TypeId) (i:TI) (h:tyB P n t=some i):P.cellsOf t=i.size:=by
 obtain ⟨_,_,inf,_,hinf,hs,_⟩:=tyB_some h
 unfold Program.cellsOf
 rw [hinf]
 exact hs
def LB (f:Func):LC:=match f.body with|some c=>lite c|none=>.skip
theorem fnOk_of {C:Cx} {f:FuncId} {fn:Func} (h:C.P.funcs[f]? = some fn) (hb:(fn.body.isSome && !(fn.name == "runtime.NumGoroutine"))=true):FnOk C f (LB fn) fn.ntmps fn.results.toList:=by
 simp only [Bool.and_eq_true,Bool.not_eq_true'] at hb
 obtain ⟨c,hc⟩:=Option.isSome_iff_exists.1 hb.1
 exact ⟨fn,c,h,hc,hb.2,by unfold LB;rw [hc],rfl,rfl⟩
def bodyB (C:Cx) (fn:Func):Bool:=match fn.body with|some c=>codeOk C fn.ntmps c|none=>false
theorem bodyOk_of {C:Cx} {f:FuncId} {fn:Func} {p:FuncId→Bool} {q:Nat→Option UL} (h:C.P.funcs[f]? = some fn) (hb:bodyB (C.wp p q) fn=true):BodyOk C f p q:=by
 refine ⟨fun fn' c h1 h2=>?_⟩
 rw [h] at h1
 injection h1 with h1
 subst h1
 unfold bodyB at hb
 rw [h2] at hb
 exact hb
theorem pure_fn {C:Cx} (hC:C.Ok) {f:FuncId} {fn:Func} (h:C.P.funcs[f]? = some fn) (hn:(fn.body.isSome && !(fn.name == "runtime.NumGoroutine"))=true) (p:FuncId→Bool) (q:Nat→Option UL) (hb:bodyB (C.wp p q) fn=true) {args:List AVal} (hlen:args.length≤fn.ntmps) {r:AVal}
  (hw:aC (C.wp p q) fn.ntmps (LB fn) (fun e fr T=>isRet e∧match aRes C fr T fn.results.toList with|some (sd,v)=>sd∧era v=r∧Closed r|none=>False) (frame0 args) []):APure C f args r :=
 apure_intro hC (fnOk_of h hn) p q (bodyOk_of h hb) hlen hw
theorem acall_fn {C:Cx} (hC:C.Ok) {f:FuncId} {fn:Func} (h:C.P.funcs[f]? = some fn) (hn:(fn.body.isSome && !(fn.name == "runtime.NumGoroutine"))=true) (p:FuncId→Bool) (q:Nat→Option UL) (hb:bodyB (C.wp p q) fn=true) {args:List AVal} (hlen:args.length≤fn.ntmps) {S S':St} {r:AVal}
  (hw:aC (C.wp p q) fn.ntmps (LB fn) (fun e fr T=>isRet e∧match aRes C fr T fn.results.toList with|some (sd,v)=>sd∧v=r∧T=S'|none=>False) (frame0 args) S):ACall C f args S r S' :=
 acall_intro hC (fnOk_of h hn) p q (bodyOk_of h hb) hlen hw
def chkB (C:Cx) (fn:Func) (n:Nat):Bool:=(fn.body.isSome && !(fn.name == "runtime.NumGoroutine"))&&(bodyB C fn&&Nat.ble n fn.ntmps)
theorem chkB_iff {C:Cx} {fn:Func} {n:Nat} (h:chkB C fn n=true):(fn.body.isSome && !(fn.name == "runtime.NumGoroutine"))=true∧bodyB C fn=true∧n≤fn.ntmps:=by
 unfold chkB at h
 have h1:=(Bool.and_eq_true _ _).mp h
 have h2:=(Bool.and_eq_true _ _).mp h1.2
 exact ⟨h1.1,h2.1,Nat.le_of_ble_eq_true h2.2⟩
def LEq (a b:LC):Prop:=a=b
theorem LEq.mk (a:LC):LEq a a:=rfl
theorem pure_fnK {C:Cx} (hC:C.Ok) {f:FuncId} {fn:Func} (h:C.P.funcs[f]? = some fn) (p:FuncId→Bool) (q:Nat→Option UL) {args:List AVal} (hb:chkB (C.wp p q) fn args.length=true) {r:AVal} {l:LC} (hl:LEq (LB fn) l)
  (hw:aC (C.wp p q) fn.ntmps l (fun e fr T=>isRet e∧match aRes C fr T fn.results.toList with|some (sd,v)=>sd∧era v=r∧Closed r|none=>False) (frame0 args) []):APure C f args r :=
 pure_fn hC h (chkB_iff hb).1 p q (chkB_iff hb).2.1 (chkB_iff hb).2.2 ((show LB fn=l from hl)▸hw)
theorem acall_fnK {C:Cx} (hC:C.Ok) {f:FuncId} {fn:Func} (h:C.P.funcs[f]? = some fn) (p:FuncId→Bool) (q:Nat→Option UL) {args:List AVal} (hb:chkB (C.wp p q) fn args.length=true) {S S':St} {r:AVal} {l:LC} (hl:LEq (LB fn) l)
  (hw:aC (C.wp p q) fn.ntmps l (fun e fr T=>isRet e∧match aRes C fr T fn.results.toList with|some (sd,v)=>sd∧v=r∧T=S'|none=>False) (frame0 args) S):ACall C f args S r S' :=
 acall_fn hC h (chkB_iff hb).1 p q (chkB_iff hb).2.1 (chkB_iff hb).2.2 ((show LB fn=l from hl)▸hw)
theorem APure.wp {C:Cx} {f:FuncId} {args:List AVal} {r:AVal} (h:APure C f args r) (p:FuncId→Bool) (q:Nat→Option UL):APure (C.wp p q) f args r:=⟨h.callable,h.ok⟩
theorem ACall.wp {C:Cx} {f:FuncId} {args:List AVal} {S S':St} {r:AVal} (h:ACall C f args S r S') (p:FuncId→Bool) (q:Nat→Option UL):ACall (C.wp p q) f args S r S':=⟨h.callable,h.ok⟩
theorem ACall.callX {C:Cx} {f:FuncId} {args:List AVal} {S S':St} {r:AVal} {p:FuncId→Bool} {q:Nat→Option UL} (h:ACall C f args S r S') (hp:p f=false):CallX (C.wp p q) f args S r S' :=
 ⟨.inl (h.wp p q),fun e=>absurd (show p f=true from e) (by rw [hp];decide)⟩
theorem APure.callW {C:Cx} {p:FuncId→Bool} {q:Nat→Option UL} (hG:GClosed C) {f:FuncId} {args as:List AVal} {r:AVal} (h:APure C f args r) {S:St} (he:args=as.map era) (hc:∀ a∈args,Closed a):CallX (C.wp p q) f as S r S :=
 (h.wp p q).callX (C:=C.wp p q) hG he hc S
theorem AExt.callX {C:Cx} {f:FuncId} {args:List AVal} {S:St} {r:AVal} {p:FuncId→Bool} {q:Nat→Option UL} (h:AExt C f args r):CallX (C.wp p q) f args S r S :=
 have h':AExt (C.wp p q) f args r:=⟨h.ex⟩
 ⟨.inr ⟨rfl,h'⟩,fun _=>⟨rfl,fun _=>.inr ⟨rfl,h'⟩⟩⟩
theorem GClosed.wp {C:Cx} (h:GClosed C) (p:FuncId→Bool) (q:Nat→Option UL):GClosed (C.wp p q):=h
attribute [go_sem] ofConst ofCell Fr.put aLoad aStore aIndexAddr aIndex aFieldAddr aField aSlice toBd aConvert nilEq nilKind aBin intBin strBin aUn aLen aAppend aCopy aBuiltin srcOf ofCells TI.isAgg isAggD aRes resVs resV isRet cutTag era setElems fillCells
theorem wp_T (C:Cx) (p:FuncId→Bool) (q:Nat→Option UL):(C.wp p q).T=C.T:=rfl
theorem wp_P (C:Cx) (p:FuncId→Bool) (q:Nat→Option UL):(C.wp p q).P=C.P:=rfl
theorem wp_G (C:Cx) (p:FuncId→Bool) (q:Nat→Option UL):(C.wp p q).G=C.G:=rfl
attribute [go_sem] wp_T wp_P wp_G
end
end Go.Am
end
section
namespace Go.Am
open Go
noncomputable section
open Classical
def putAll (fr:Fr):List Nat→List AVal→Fr
 |k::ks,v::vs=>putAll ((k,v)::fr) ks vs
 |_,_=>fr
def roundEnd (fr:Fr) (N:Nat) (ps:List Nat) (asg body:Code) (tag i:Nat) (T:St):Exit→Option (AVal × St)
 |.normal=>some (.bool true,T.set i (.loop fr N ps asg body .ready none tag))
 |.ret=>some (.bool false,T.set i (.loop fr N ps asg body .done (some .ret) tag))
 |.exit id=>some (.bool false,T.set i (.loop fr N ps asg body .done (some (.exit id)) tag))
 |_=>none
section
variable {C:Cx} {N:Nat}
theorem putAll_ok {E:Env}:∀ (ks:List Nat) (vs:List AVal) (xs:List Value) (fr:Fr) (tmps:Array Value),ks.length=vs.length→xs.length=vs.length→(∀ k∈ks,k<N)→tmps.size=N →
  (∀ j (h:j<vs.length),R E vs[j] (xs.getD j undef))→(∀ t,R E (fr.get t) (tmps.getD t undef)) →
  ((ks.zip xs).foldl (fun t (p,v)=>t.setIfInBounds p v) tmps).size=N∧∀ t,R E ((putAll fr ks vs).get t) (((ks.zip xs).foldl (fun t (p,v)=>t.setIfInBounds p v) tmps).getD t undef):=by
 intro ks
 induction ks with
 |nil=>intro vs xs fr tmps _ _ _ hs _ hr;exact ⟨hs,hr⟩
 |cons k ks ih =>
  intro vs xs fr tmps hl hl2 hk hs hv hr
  match vs,xs,hl,hl2 with
  |v::vs,x::xs,hl,hl2 =>
   simp only [List.zip_cons_cons,List.foldl_cons,putAll]
   refine ih vs xs _ _ (by simpa using hl) (by simpa using hl2) (fun q hq=>hk q (List.mem_cons_of_mem _ hq)) (by simpa using hs) (fun j h=>by
    have:=hv (j+1) (by simp only [List.length_cons];omega)
    simp only [List.getElem_cons_succ,List.getD_eq_getElem?_getD,List.getElem?_cons_succ] at this ⊢
    exact this) (fun t=>?_)
   have hkn:=hk k (List.mem_cons_self ..)
   simp only [Fr.get,Array.getD_eq_getD_getElem?]
   split
   ·next e =>
    subst e
    rw [Array.getElem?_setIfInBounds_self_of_lt (by rw [hs];exact hkn)]
    have:=hv 0 (by simp)
    simpa using this
   ·next e =>
    rw [Array.getElem?_setIfInBounds_ne (fun h=>e h.symm)]
    have:=hr t
    simpa [Array.getD_eq_getD_getElem?] using this
theorem ayield_ok {fr:Fr} {ps:List Nat} {asg body:Code} {pend:Option Code} {tag i:Nat} {args:List AVal} {S S':St} {r:AVal} {p:FuncId→Bool} {q:Nat→Option UL}
  (hS:S[i]? = some (.loop fr N ps asg body .ready pend tag)) (hl:ps.length=args.length) (hps:∀ k∈ps,k<N) (hna:noRF asg=true) (hnb:noRF body=true)
  (h:AWp (C.wp p q) N asg (fun e fr1 T1=>e = .normal∧∃ fr0 N0 ps0 asg0 body0 pend0 tag0,T1[i]? = some (.loop fr0 N0 ps0 asg0 body0 .ready pend0 tag0) ∧
   AWp (C.wp p q) N body (fun e _ T2=>∃ fr0 N0 ps0 asg0 body0 st0 pend0 tag0,T2[i]? = some (.loop fr0 N0 ps0 asg0 body0 st0 pend0 tag0)∧roundEnd fr0 N0 ps0 asg0 body0 tag0 i T2 e=some (r,S')) fr1 (T1.set i (.loop fr0 N0 ps0 asg0 body0 .busy pend0 tag0)))
   (putAll fr ps args) S):AYield C i args S r S':=by
 intro F n hF E vs b hE hES hm hvs hr
 obtain ⟨b',rec,h1,h2,h3,h4,h5,h6,h7,h8,h9⟩:=hE.entry i _ (by rw [hES];exact hS)
 obtain rfl:b'=b:=by rw [hm] at h1;injection h1 with h1;injection h1 with h1;exact h1.symm
 subst h4 h5
 refine ⟨rec.fn,(rec.params.zip vs).foldl (fun tmps (t,a)=>tmps.setIfInBounds t a) rec.tmps,rec.assign,rec.body,?_,?_⟩
 ·have hsz:vs.size=rec.params.size:=by rw [hvs,← hl,← h3,Array.length_toList]
  simp only [Instr.yield,Instr.getLoop,getObj,Sem.run_bind,Sem.run,h2,Result.andThen_ok,Sem.run_pure,hsz,ne_eq,not_true,if_false]
 ·have hz:(rec.params.zip vs).foldl (fun tmps (t,a)=>tmps.setIfInBounds t a) rec.tmps=(ps.zip vs.toList).foldl (fun t (p,v)=>t.setIfInBounds p v) rec.tmps:=by
   rw [← Array.foldl_toList,Array.toList_zip,h3]
  obtain ⟨z1,z2⟩:=putAll_ok (N:=N) (E:=E) ps args vs.toList fr rec.tmps hl (by simpa using hvs) hps h8 (fun j hj=>by
   have:=hr j hj
   simpa [List.getD_eq_getElem?_getD,Array.getD_eq_getD_getElem?] using this) h9
  have hrf:RF (E.acts E.w.heap.size) N (putAll fr ps args).get { tmps:=(rec.params.zip vs).foldl (fun tmps (t,a)=>tmps.setIfInBounds t a) rec.tmps,defers:=[] }:=by
   refine ⟨by rw [hz];exact z1,Marks.nil (Nat.le_refl _),fun t=>?_⟩
   rw [hz]
   exact (z2 t).acts _
  have hFi:FW (F.inRound b'):=hF.inRound b'
  refine roundIn_of_wpIn (hF.fn _) (wpIn_mono (h (F.inRound b') n hFi (.inr hna) (E.acts E.w.heap.size) _ (hE.acts _) hES hrf) ?_)
  rintro e a1 w1 ⟨E1,fr1,rfl,k2,k3,k4,rfl,fr0,N0,ps0,asg0,body0,pend0,tag0,hT1,hb⟩
  obtain ⟨b1,rec1,m1,m2,m3,m4,m5,m6,m7,m8,m9⟩:=k2.entry i _ hT1
  obtain rfl:b1=b':=by
   have:=(k3.box i _ (by show E.S[i]? = _;rw [hES];exact hS) rfl).1
   rw [m1] at this
   have h2:some (some b1)=some (some b'):=this.trans hm
   injection h2 with h2;injection h2
  have hbr:=run_beginRound (P:=C.P) m2 m6
  refine ⟨_,hbr,?_⟩
  obtain ⟨x3,w3⟩:=env_set k2 m1 (grownBy_putObj' E1.w b1 (.loop { rec1 with state:=.busy })) _ (.loop fr0 N0 ps0 asg0 body0 .busy pend0 tag0) hT1 rfl rfl
   (fun hext=>⟨b1,{ rec1 with state:=.busy },m1,World.putObj_heap_same (heap_lt m2),m3,m4,m5,rfl,m7,m8,fun t=>(m9 t).ext k2 hext⟩)
  refine wpIn_mono (hb (F.inRound b1) n hFi (.inr hnb) _ a1 w3 rfl (k4.ext k2 x3)) ?_
  rintro e a2 w2 ⟨E2,fr2,rfl,j2,j3,j4,fr4,N4,ps4,asg4,body4,st4,pend4,tag4,hT2,he⟩
  obtain ⟨b2,rec2,q1,q2,q3,q4,q5,q6,q7,q8,q9⟩:=j2.entry i _ hT2
  have hS3:(E1.S.set i (ABox.loop fr0 N0 ps0 asg0 body0 .busy pend0 tag0))[i]? = some (ABox.loop fr0 N0 ps0 asg0 body0 .busy pend0 tag0):=List.getElem?_set_self (List.getElem?_eq_some_iff.1 hT1).1
  obtain rfl:b2=b1:=by
   have:=(j3.box i _ hS3 rfl).1
   rw [q1] at this
   have h2:some (some b2)=some (some b1):=this.trans m1
   injection h2 with h2;injection h2
  have fin:∀ (jump:Option Code) (st:LoopState),(if jump.isNone then LoopState.ready else .done)=st→∃ v w',(Instr.endRound b2 jump).run C.P E2.w = .ok v w' ∧
    ∃ E' v',Ending.returned v = .returned v'∧E'.w=w'∧Wf C.G E'∧Ext E E'∧E'.S=E2.S.set i (.loop fr4 N4 ps4 asg4 body4 st jump tag4)∧R E' (.bool jump.isNone) v':=by
   intro jump st hst
   have hend:=run_endRound (P:=C.P) jump q2
   obtain ⟨x5,w5⟩:=env_set j2 q1 (grownBy_putObj' E2.w b2 (.loop { rec2 with state:=if jump.isNone then .ready else .done,pending:=jump })) _ (.loop fr4 N4 ps4 asg4 body4 st jump tag4) hT2 rfl rfl
    (fun hext=>⟨b2,{ rec2 with state:=if jump.isNone then .ready else .done,pending:=jump },q1,World.putObj_heap_same (heap_lt q2),q3,q4,q5,hst,rfl,q8,fun t=>(q9 t).ext j2 hext⟩)
   have xall:=((k3.trans (hE.acts _) x3).trans (hE.acts _) j3).trans (hE.acts _) x5
   refine ⟨_,_,hend,Env.acts { E2 with w:=_,S:=_ } E.act,_,rfl,rfl,w5.acts _,⟨xall.base,xall.im0,rfl,xall.size,xall.os,xall.tape,xall.output,xall.len,xall.free,xall.box,xall.grow,xall.frz,xall.row⟩,rfl,.bool _⟩
  cases e<;>simp only [roundEnd,Option.some.injEq,Prod.mk.injEq,reduceCtorEq] at he
  case normal =>
   obtain ⟨v,w',f1,E',v',f2,f3,f4,f5,f6,f7⟩:=fin none .ready rfl
   exact ⟨v,w',f1,E',v',f2,f3,f4,f5,by rw [f6];exact he.2,he.1▸f7⟩
  case ret =>
   obtain ⟨v,w',f1,E',v',f2,f3,f4,f5,f6,f7⟩:=fin (some .ret) .done rfl
   exact ⟨v,w',f1,E',v',f2,f3,f4,f5,by rw [f6];exact he.2,he.1▸f7⟩
  case exit id =>
   obtain ⟨v,w',f1,E',v',f2,f3,f4,f5,f6,f7⟩:=fin (some (.exit id)) .done rfl
   exact ⟨v,w',f1,E',v',f2,f3,f4,f5,by rw [f6];exact he.2,he.1▸f7⟩
end
end
end Go.Am
end
section
namespace Go.Am
open Go
noncomputable section
open Classical
def belT (n:Nat):Tag→Bool
 |.grow g=>Nat.blt g n
 |.own g=>Nat.blt g n
 |.lit=>Nat.blt 0 n
 |_=>true
mutual
def bel (n:Nat):AVal→Bool
 |.ptr i _=>Nat.blt i n
 |.view i _ _ _=>Nat.blt i n
 |.vrow i _ _=>Nat.blt i n
 |.ms i _ _=>Nat.blt i n
 |.map i=>Nat.blt i n
 |.yld i=>Nat.blt i n
 |.room g _ _ _=>Nat.blt g n
 |.cptr cs=>bels n cs
 |.sl _ _ xs tg=>belT n tg&&bels n xs
 |.fn _ as bs=>bels n as&&bels n bs
 |.ifc _ v=>bel n v
 |.agg cs=>bels n cs
 |.tup vs=>bels n vs
 |_=>true
def bels (n:Nat):List AVal→Bool
 |[]=>true
 |v::vs=>bel n v&&bels n vs
end
theorem bels_iff {n:Nat}:∀ {vs:List AVal},bels n vs=true↔∀ v∈vs,bel n v=true
 |[]=>by simp [bels]
 |v::vs=>by simp [bels,bels_iff (vs:=vs)]
theorem bel_cells {n:Nat} {v:AVal} (h:bel n v=true):∀ c∈v.cells,bel n c=true:=by
 cases v<;>simp only [AVal.cells,List.mem_singleton]<;>first|(rintro c rfl;exact h)|exact bels_iff.1 h
theorem blt_iff {a b:Nat}:Nat.blt a b=true↔a<b:=by simp [Nat.blt,Nat.succ_le_iff]
mutual
theorem clo_ok:∀ v:AVal,bel 0 v=true→Closed v
 |.any,_=>.any
 |.raw v,_=>.raw v
 |.int k n,_=>.int k n
 |.bool b,_=>.bool b
 |.str s,_=>.str s
 |.nilp,_=>.nilp
 |.ptr i o,h=>by simp [bel,Nat.blt] at h
 |.view i o n c,h=>by simp [bel,Nat.blt] at h
 |.vrow i o n,h=>by simp [bel,Nat.blt] at h
 |.ms i o n,h=>by simp [bel,Nat.blt] at h
 |.map i,h=>by simp [bel,Nat.blt] at h
 |.yld i,h=>by simp [bel,Nat.blt] at h
 |.room g _ _ _,h=>by simp [bel,Nat.blt] at h
 |.cptr cs,h=>.cptr cs (clos_ok cs (by simpa [bel] using h))
 |.sl sz nl xs tg,h=>by
  simp only [bel,Bool.and_eq_true] at h
  exact .sl sz nl xs tg (fun g=>⟨fun e=>(by rw [e] at h;simp [belT,Nat.blt] at h),fun e=>(by rw [e] at h;simp [belT,Nat.blt] at h),fun e=>(by rw [e] at h;simp [belT,Nat.blt] at h)⟩) (clos_ok xs h.2)
 |.nilmap,_=>.nilmap
 |.fn f as bs,h=>by
  simp only [bel,Bool.and_eq_true] at h
  exact .fn f as bs (clos_ok as h.1) (clos_ok bs h.2)
 |.nilfn,_=>.nilfn
 |.ifc t v,h=>.ifc t v (clo_ok v (by simpa [bel] using h))
 |.nilifc,_=>.nilifc
 |.agg cs,h=>.agg cs (clos_ok cs (by simpa [bel] using h))
 |.tup cs,h=>.tup cs (clos_ok cs (by simpa [bel] using h))
theorem clos_ok:∀ vs:List AVal,bels 0 vs=true→∀ v∈vs,Closed v
 |[],_=>fun v h=>by cases h
 |x::xs,h=>by
  simp only [bels,Bool.and_eq_true] at h
  intro v hv
  have h1:=clo_ok x h.1
  rcases List.mem_cons.1 hv with e|hv
  ·rw [e];exact h1
  ·exact clos_ok xs h.2 v hv
end
def belF (n:Nat):Fr→Bool
 |[]=>true
 |(_,v)::r=>bel n v&&belF n r
def belM (n:Nat):List (AVal × AVal × Nat)→Bool
 |[]=>true
 |(k,v,_)::r=>bel n k&&bel n v&&belM n r
def belP (n:Nat):List (AVal × AVal)→Bool
 |[]=>true
 |(k,v)::r=>bel n k&&bel n v&&belP n r
def belB (n:Nat):ABox→Bool
 |.cells cs _=>bels n cs
 |.grow _ _ _=>true
 |.mp es _=>belM n es
 |.iter m _ _ _=>match m with
  |some k=>Nat.blt k n
  |none=>true
 |.loop fr _ _ _ _ _ _ _=>belF n fr
 |.mpx es _=>belP n es
 |.frz o=>match o with
  |some es=>belP n es
  |none=>true
 |.hole=>true
 |.siter _ _=>true
 |.row cs _=>bels n cs
 |.dead=>true
def belS (n:Nat):St→Bool
 |[]=>true
 |x::S=>belB n x&&belS n S
theorem belS_iff {n:Nat}:∀ {S:St},belS n S=true↔∀ x∈S,belB n x=true
 |[]=>by simp [belS]
 |x::S=>by simp [belS,belS_iff (S:=S)]
theorem belF_get {n:Nat}:∀ {fr:Fr},belF n fr=true→∀ t,bel n (fr.get t)=true
 |[],_,_=>rfl
 |(k,v)::r,h,t=>by
  simp only [belF,Bool.and_eq_true] at h
  simp only [Fr.get]
  split
  ·exact h.1
  ·exact belF_get h.2 t
theorem belM_get {n:Nat}:∀ {es:List (AVal × AVal × Nat)},belM n es=true→∀ e∈es,bel n e.1=true∧bel n e.2.1=true
 |[],_,e,h=>by cases h
 |(k,v,q)::r,h,e,he=>by
  simp only [belM,Bool.and_eq_true] at h
  rcases List.mem_cons.1 he with rfl|he
  ·exact h.1
  ·exact belM_get h.2 e he
theorem belP_get {n:Nat}:∀ {es:List (AVal × AVal)},belP n es=true→∀ e∈es,bel n e.1=true∧bel n e.2=true
 |[],_,e,h=>by cases h
 |(k,v)::r,h,e,he=>by
  simp only [belP,Bool.and_eq_true] at h
  rcases List.mem_cons.1 he with rfl|he
  ·exact h.1
  ·exact belP_get h.2 e he
def Env.cut (E:Env) (n:Nat):Env:={ E with mu:=E.mu.take n,S:=E.S.take n }
section
variable {G:Nat→Option AVal} {E:Env} {n:Nat}
theorem cut_free {b:Nat} (h:E.free b):(E.cut n).free b:=by
 intro i hi
 have hi:(E.mu.take n)[i]? = some (some b):=hi
 rw [List.getElem?_take] at hi
 split at hi
 ·exact h i hi
 ·cases hi
theorem cut_mu {i:Nat} (h:i<n):(E.cut n).mu[i]? = E.mu[i]?:=by
 show (E.mu.take n)[i]? = _
 rw [List.getElem?_take,if_pos h]
theorem cut_S {i:Nat} (h:i<n):(E.cut n).S[i]? = E.S[i]?:=by
 show (E.S.take n)[i]? = _
 rw [List.getElem?_take,if_pos h]
theorem cut_Im (hE:Wf G E) {b o:Nat} (h:E.Im b o):(E.cut n).Im b o:=by
 obtain ⟨h1,h2⟩:=h
 refine ⟨h1,?_⟩
 rcases h2 with h2|⟨h2,h3⟩|⟨h2,i,m,sz,t,h3,h4,h5⟩
 ·exact .inl h2
 ·exact .inr (.inl ⟨h2,cut_free h3⟩)
 ·rcases Nat.lt_or_ge i n with hi|hi
  ·exact .inr (.inr ⟨h2,i,m,sz,t,(cut_mu hi).trans h3,(cut_S hi).trans h4,h5⟩)
  ·refine .inr (.inl ⟨h2,fun j hj=>?_⟩)
   have hj:(E.mu.take n)[j]? = some (some b):=hj
   rw [List.getElem?_take] at hj
   split at hj
   ·have:=hE.one1 h3 hj h4 rfl
    omega
   ·cases hj
theorem R.cut (hE:Wf G E) {v:AVal} {x:Value} (k:R E v x) (hb:bel n v=true):R (E.cut n) v x:=by
 have hol:∀ {ad:Addr} {j:Nat} {y:Value},E.holds ad j y→(E.cut n).holds ad j y:=fun ⟨h1,h2,h3,h4⟩=>⟨h1,h2,cut_Im hE h3,h4⟩
 have tg:∀ {sz:Nat} {t:Tag} {a:Option Addr} {m c:Nat},belT n t=true→E.tagOk sz t a m c→(E.cut n).tagOk sz t a m c:=by
  intro sz t a m c hb h
  cases t with
  |any=>trivial
  |full=>exact h
  |lit=>exact ⟨h.1,fun ad ha=>by obtain ⟨h1,h2,h3,h4⟩:=h.2 ad ha;exact ⟨h1,h2,h3,cut_free h4⟩⟩
  |grow g =>
   have hg:g<n:=blt_iff.1 hb
   obtain ⟨q,ty,h1,h2,h3⟩:=h
   refine ⟨q,ty,(cut_S hg).trans h1,h2,fun e=>?_⟩
   rcases h3 e with ⟨k1,k2⟩|⟨b,arr,k1,k2⟩
   ·exact .inl ⟨(cut_mu hg).trans k1,k2⟩
   ·exact .inr ⟨b,arr,(cut_mu hg).trans k1,k2⟩
  |own g =>
   have hg:g<n:=blt_iff.1 hb
   obtain ⟨q,ty,h1,h2,h3⟩:=h
   refine ⟨q,ty,(cut_S hg).trans h1,h2,fun e=>?_⟩
   rcases h3 e with ⟨k1,k2⟩|⟨b,arr,k1,k2⟩
   ·exact .inl ⟨(cut_mu hg).trans k1,k2⟩
   ·exact .inr ⟨b,arr,(cut_mu hg).trans k1,k2⟩
 induction k with
 |any x=>exact .any x
 |raw x=>exact .raw x
 |int k n=>exact .int k n
 |bool b=>exact .bool b
 |str s l h=>exact .str s l h
 |nilp=>exact .nilp
 |ptr i off b hm hbx=>have hi:=blt_iff.1 hb;exact .ptr i off b ((cut_mu hi).trans hm) (by rw [cut_S hi];exact hbx)
 |cptr cs ad f hf hr ih=>exact .cptr cs ad f (fun j hj=>hol (hf j hj)) fun j hj=>ih j hj (bels_iff.1 hb _ (List.getElem_mem hj))
 |slnil sz t ht=>simp only [bel,Bool.and_eq_true] at hb;exact .slnil sz t (tg hb.1 ht)
 |sl sz xs t ad m c f hn hc hm hf hsz hr ht ih =>
  simp only [bel,Bool.and_eq_true] at hb
  exact .sl sz xs t ad m c f hn hc hm (fun j hj=>hol (hf j hj)) hsz (fun k hk j hj=>ih k hk j hj (bel_cells (bels_iff.1 hb.2 _ (List.getElem_mem hk)) _ (List.getElem_mem hj))) (tg hb.1 ht)
 |view i off m cap b hnc hm hbx=>have hi:=blt_iff.1 hb;exact .view i off m cap b hnc ((cut_mu hi).trans hm) (by rw [cut_S hi];exact hbx)
 |vrow i off m b c hnc hcm hm hbx=>have hi:=blt_iff.1 hb;exact .vrow i off m b c hnc hcm ((cut_mu hi).trans hm) (by rw [cut_S hi];exact hbx)
 |ms i sz m b c hnc hcm hm hbx hcp=>have hi:=blt_iff.1 hb;exact .ms i sz m b c hnc hcm ((cut_mu hi).trans hm) (by rw [cut_S hi];exact hbx) (fun cs t k=>hcp cs t (by rw [← cut_S hi];exact k))
 |nilmap=>exact .nilmap
 |map i b hm hbx=>have hi:=blt_iff.1 hb;exact .map i b ((cut_mu hi).trans hm) (by rw [cut_S hi];exact hbx)
 |fn f xs ys as bs h1 h2 hx hy ihx ihy =>
  simp only [bel,Bool.and_eq_true] at hb
  exact .fn f xs ys as bs h1 h2 (fun j hj=>ihx j hj (bels_iff.1 hb.1 _ (List.getElem_mem hj))) fun j hj=>ihy j hj (bels_iff.1 hb.2 _ (List.getElem_mem hj))
 |nilfn=>exact .nilfn
 |ifc t v x hx ih=>exact .ifc t v x (ih hb)
 |nilifc=>exact .nilifc
 |agg cs as h1 hx ih=>exact .agg cs as h1 fun j hj=>ih j hj (bels_iff.1 hb _ (List.getElem_mem hj))
 |tup cs as h1 hx ih=>exact .tup cs as h1 fun j hj=>ih j hj (bels_iff.1 hb _ (List.getElem_mem hj))
 |yld i b hm hbx=>have hi:=blt_iff.1 hb;exact .yld i b ((cut_mu hi).trans hm) (by rw [cut_S hi];exact hbx)
 |room g sz t q b c hn hm h =>
  have hi:=blt_iff.1 hb
  obtain ⟨m,h1,h2⟩:=h
  refine .room g sz t q b c hn hm ⟨m,(cut_S hi).trans h1,fun e=>?_⟩
  obtain ⟨q1,q2⟩:=h2 e
  exact ⟨(cut_mu hi).trans q1,q2⟩
theorem entryOk.cut (hE:Wf G E) {i:Nat} {x:ABox} (hi:i<n) (k:entryOk E i x) (hb:belB n x=true):entryOk (E.cut n) i x:=by
 have hmp:∀ es es' c,MX es es' c→belP n es=true→mpOk E i es' c→mpOk (E.cut n) i es' c:=by
  intro es es' c hx hb ⟨b,ms,h1,h2,h3,h4⟩
  have hbe:∀ e∈es',bel n e.1=true∧bel n e.2.1=true:=fun e he=>belP_get hb (e.1,e.2.1) (hx.perm.mem_iff.1 (List.mem_map.2 ⟨e,he,rfl⟩))
  exact ⟨b,ms,(cut_mu hi).trans h1,h2,h3,fun j hj=>⟨(h4 j hj).1.cut hE (hbe _ (List.getElem_mem hj)).1,(h4 j hj).2.1.cut hE (hbe _ (List.getElem_mem hj)).2,(h4 j hj).2.2⟩⟩
 cases x with
 |cells cs t =>
  obtain ⟨b,arr,h1,h2,h3,h4⟩:=k
  exact ⟨b,arr,(cut_mu hi).trans h1,h2,h3,fun j hj=>⟨(h4 j hj).1.cut hE (bels_iff.1 hb _ (List.getElem_mem hj)),(h4 j hj).2⟩⟩
 |row cs t =>
  obtain ⟨b,arr,h1,h2,h3,h4⟩:=k
  exact ⟨b,arr,(cut_mu hi).trans h1,h2,h3,fun j hj=>⟨(h4 j hj).1.cut hE (bels_iff.1 hb _ (List.getElem_mem hj)),(h4 j hj).2⟩⟩
 |grow m sz t =>
  rcases k with k|⟨b,arr,h1,h2⟩
  ·exact .inl ((cut_mu hi).trans k)
  ·exact .inr ⟨b,arr,(cut_mu hi).trans h1,h2⟩
 |frz o =>
  cases o with
  |none=>trivial
  |some es =>
   obtain ⟨c,es',hx,q⟩:=k
   exact ⟨c,es',hx,hmp es es' c hx hb q⟩
 |mpx es c =>
  obtain ⟨es',hx,q⟩:=k
  exact ⟨es',hx,hmp es es' c hx hb q⟩
 |dead=>trivial
 |hole=>trivial
 |siter s pos =>
  obtain ⟨b,ba,h1,h2,h3⟩:=k
  exact ⟨b,ba,(cut_mu hi).trans h1,h2,h3⟩
 |mp es c =>
  obtain ⟨b,ms,h1,h2,h3,h4⟩:=k
  exact ⟨b,ms,(cut_mu hi).trans h1,h2,h3,fun j hj=>⟨(h4 j hj).1.cut hE (belM_get hb _ (List.getElem_mem hj)).1,(h4 j hj).2.1.cut hE (belM_get hb _ (List.getElem_mem hj)).2,(h4 j hj).2.2⟩⟩
 |iter m since seen last =>
  obtain ⟨b,h1,h2⟩:=k
  refine ⟨b,(cut_mu hi).trans h1,?_⟩
  cases m with
  |none=>exact h2
  |some q =>
   have hq:q<n:=blt_iff.1 hb
   obtain ⟨c,k1,k2,k3⟩:=h2
   exact ⟨c,(cut_mu hq).trans k1,by rw [cut_S hq];exact k2,k3⟩
 |loop fr N ps asg body st pend tag =>
  obtain ⟨b,r,h1,h2,h3,h4,h5,h6,h7,h8,h9⟩:=k
  exact ⟨b,r,(cut_mu hi).trans h1,h2,h3,h4,h5,h6,h7,h8,fun t=>(h9 t).cut hE (belF_get hb t)⟩
theorem env_cut (hG:∀ g v,G g=some v→Closed v) (hE:Wf G E) (hb:belS n (E.S.take n)=true):Wf G (E.cut n):=by
 refine ⟨?_,fun i j b h1 h2 d=>?_,fun i b h=>?_,hE.base,fun b o h1 h2=>cut_free (hE.im b o h1 h2),fun i x h=>?_,fun g v h=>?_⟩
 ·show (E.mu.take n).length=(E.S.take n).length
  simp [hE.len]
 ·have h1:(E.mu.take n)[i]? = some (some b):=h1
  have h2:(E.mu.take n)[j]? = some (some b):=h2
  rw [List.getElem?_take] at h1 h2
  split at h1
  ·next l1 =>
   split at h2
   ·next l2=>exact hE.inj i j b h1 h2 fun e=>d (by rw [cut_S l1,cut_S l2];exact e)
   ·cases h2
  ·cases h1
 ·have h:(E.mu.take n)[i]? = some (some b):=h
  rw [List.getElem?_take] at h
  split at h
  ·exact hE.lt i b h
  ·cases h
 ·have h:(E.S.take n)[i]? = some x:=h
  have hm:=List.mem_of_getElem? h
  rw [List.getElem?_take] at h
  split at h
  ·next hi=>exact (hE.entry i x h).cut hE hi (belS_iff.1 hb x hm)
  ·cases h
 ·have hs:Sees E (E.cut n):=⟨fun b o hi=>⟨cut_Im hE hi,rfl⟩⟩
  exact ⟨(hG g v h).move hs (hE.glob g v h).r,cut_free (hE.glob g v h).free,(hE.glob g v h).obj⟩
theorem ext_cut {E0:Env} (h:Ext E0 E) (hn:E0.S.length≤n):Ext E0 (E.cut n):=by
 have lt_of:∀ (i:Nat) (y:ABox),E0.S[i]? = some y→i<n:=fun i y h=>by
  rcases Nat.lt_or_ge i E0.S.length with hlt|hge
  ·omega
  ·rw [List.getElem?_eq_none hge] at h;cases h
 refine ⟨h.base,h.im0,h.act,h.size,h.os,h.tape,h.output,?_,fun b hb hf=>⟨cut_free (h.free b hb hf).1,(h.free b hb hf).2⟩,fun i x hx hg=>?_,fun i m sz t hi=>?_,fun i b o hS hm=>⟨(cut_S (lt_of i _ hS)).trans (h.frz i b o hS hm).1,(h.frz i b o hS hm).2⟩,fun i cs t hS hi=>h.row i cs t ((cut_S (by omega)).symm.trans hS) hi⟩
 ·show E0.S.length≤(E.S.take n).length
  have:=h.len
  simp;omega
 ·obtain ⟨e,y,hy,hyg⟩:=h.box i x hx hg
  have hi:=lt_of i x hx
  exact ⟨(cut_mu hi).trans e,y,(cut_S hi).trans hy,hyg⟩
 ·obtain ⟨m',h1,h2,h3,h4⟩:=h.grow i m sz t hi
  have hi:=lt_of i _ hi
  refine ⟨m',(cut_S hi).trans h1,h2,fun e=>⟨(cut_mu hi).trans (h3 e).1,(h3 e).2⟩,fun b hb=>⟨(h4 b hb).1,?_⟩⟩
  rcases (h4 b hb).2 with k|k
  ·exact .inl ((cut_mu hi).trans k)
  ·exact .inr (cut_free k)
theorem ACall.drop {C:Cx} (hG:GClosed C) {f:FuncId} {args:List AVal} {S S':St} {r:AVal} (h:ACall C f args S r S') (hn:S.length≤n) (hr:bel n r=true) (hS:belS n (S'.take n)=true):ACall C f args S r (S'.take n) :=
 ⟨h.callable,fun E vs hE hES hvs hrel=>(h.ok E vs hE hES hvs hrel).mono fun _ _ ⟨E',v,h1,h2,h3,h4,h5,h6⟩ =>
  ⟨E'.cut n,v,h1,h2,env_cut hG h3 (by rw [h5];exact hS),ext_cut h4 (by rw [hES];exact hn),by show E'.S.take n=_;rw [h5],h6.cut h3 hr⟩⟩
end
end
end Go.Am
end
