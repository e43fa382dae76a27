/- The abstract layer: values known less well: what is known of capacities is forgotten, also within structs; a nil slice is one whatever its elements. -/
import Derived.Test.YteemcehaekffeaaGreatAmWalkB
import Derived.Test.YteemcehaekffeaaGreatAmSimp
import Derived.Test.YteemcehaekffeaaGreatAmYield
set_option linter.unusedVariables false
set_option linter.unusedSimpArgs false
namespace Go.Am
open Go
noncomputable section
open Classical
mutual
def Wk:AVal→AVal→Prop
 |.agg a,.agg b=>Wks a b
 |.tup a,.tup b=>Wks a b
 |.sl sz nl xs _,.sl sz' nl' xs' .any=>nl=nl'∧xs=xs'∧(sz=sz'∨(nl=true∧xs=[]))
 |v,v'=>v=v'
def Wks:List AVal→List AVal→Prop
 |[],[]=>True
 |v::vs,v'::vs'=>Wk v v'∧Wks vs vs'
 |_,_=>False
end
mutual
theorem Wk_refl:∀ v:AVal,Wk v v
 |.agg a=>by simp only [Wk];exact Wks_refl a
 |.tup a=>by simp only [Wk];exact Wks_refl a
 |.sl sz nl xs tg=>by cases tg<;>simp [Wk]
 |.any|.raw _|.int _ _|.bool _|.str _|.nilp|.ptr _ _|.cptr _|.view _ _ _ _|.nilmap|.map _|.fn _ _ _|.nilfn|.ifc _ _|.nilifc|.yld _|.room _ _ _ _|.vrow _ _ _|.ms _ _ _=>by simp [Wk]
theorem Wks_refl:∀ vs:List AVal,Wks vs vs
 |[]=>by simp [Wks]
 |v::vs=>by simp only [Wks];exact ⟨Wk_refl v,Wks_refl vs⟩
end
theorem Wks_length:∀ {a b:List AVal},Wks a b→a.length=b.length
 |[],[],_=>rfl
 |[],_::_,h=>by simp [Wks] at h
 |_::_,[],h=>by simp [Wks] at h
 |x::a,y::b,h=>by
  simp only [Wks] at h
  simp [Wks_length h.2]
theorem Wks_get:∀ {a b:List AVal},Wks a b→∀ (j:Nat) (h1:j<a.length) (h2:j<b.length),Wk a[j] b[j]
 |[],_,_,j,h1,_=>absurd h1 (Nat.not_lt_zero _)
 |_::_,[],h,_,_,_=>by simp [Wks] at h
 |x::a,y::b,h,j,h1,h2=>by
  simp only [Wks] at h
  cases j with
  |zero=>exact h.1
  |succ j=>exact Wks_get h.2 j (by simpa using h1) (by simpa using h2)
theorem Wks_app:∀ (p a b:List AVal),Wks (p++a) (p++b)↔Wks a b
 |[],_,_=>Iff.rfl
 |x::p,a,b=>by
  simp only [List.cons_append,Wks]
  rw [Wks_app p a b]
  exact ⟨fun h=>h.2,fun h=>⟨Wk_refl x,h⟩⟩
theorem R.wk {E:Env} {v:AVal} {x:Value} (h:R E v x):∀ {v':AVal},Wk v v'→R E v' x:=by
 induction h with
 |agg cs az h1 hx ih =>
  intro v' hw
  cases v' with
  |agg b =>
   simp only [Wk] at hw
   have hl:=Wks_length hw
   exact .agg b az (by omega) fun j hj=>ih j (by omega) (Wks_get hw j (by omega) hj)
  |_=>simp [Wk] at hw
 |tup cs az h1 hx ih =>
  intro v' hw
  cases v' with
  |tup b =>
   simp only [Wk] at hw
   have hl:=Wks_length hw
   exact .tup b az (by omega) fun j hj=>ih j (by omega) (Wks_get hw j (by omega) hj)
  |_=>simp [Wk] at hw
 |slnil sz tg ht =>
  intro v' hw
  cases v' with
  |sl sz' nl' xs' tg' =>
   cases tg' with
   |any =>
    simp only [Wk] at hw
    obtain ⟨rfl,rfl,_⟩:=hw
    exact .slnil _ _ trivial
   |_ =>
    simp only [Wk,AVal.sl.injEq] at hw
    obtain ⟨rfl,rfl,rfl,rfl⟩:=hw
    exact .slnil _ _ ht
  |_=>simp [Wk] at hw
 |sl sz xs tg ad n c f hn hc hm hf hsz hr ht _ =>
  intro v' hw
  cases v' with
  |sl sz' nl' xs' tg' =>
   cases tg' with
   |any =>
    simp only [Wk] at hw
    obtain ⟨rfl,rfl,h3⟩:=hw
    rcases h3 with rfl|⟨h3,_⟩
    ·exact .sl _ _ _ ad n c f hn hc hm hf hsz hr trivial
    ·cases h3
   |_ =>
    simp only [Wk,AVal.sl.injEq] at hw
    obtain ⟨rfl,rfl,rfl,rfl⟩:=hw
    exact .sl _ _ _ ad n c f hn hc hm hf hsz hr ht
  |_=>simp [Wk] at hw
 |any x=>intro v' hw;cases v'<;>simp [Wk] at hw;exact .any x
 |raw x=>intro v' hw;cases v'<;>simp [Wk] at hw;subst hw;exact .raw x
 |int k n=>intro v' hw;cases v'<;>simp [Wk] at hw;obtain ⟨rfl,rfl⟩:=hw;exact .int k n
 |bool b=>intro v' hw;cases v'<;>simp [Wk] at hw;subst hw;exact .bool b
 |str s l h=>intro v' hw;cases v'<;>simp [Wk] at hw;subst hw;exact .str s l h
 |nilp=>intro v' hw;cases v'<;>simp [Wk] at hw;exact .nilp
 |ptr i off b h hb=>intro v' hw;cases v'<;>simp [Wk] at hw;obtain ⟨rfl,rfl⟩:=hw;exact .ptr i off b h hb
 |cptr cs ad f hf hr _=>intro v' hw;cases v'<;>simp [Wk] at hw;subst hw;exact .cptr cs ad f hf hr
 |view i off n cap b hnc h hb=>intro v' hw;cases v'<;>simp [Wk] at hw;obtain ⟨rfl,rfl,rfl,rfl⟩:=hw;exact .view i off n cap b hnc h hb
 |nilmap=>intro v' hw;cases v'<;>simp [Wk] at hw;exact .nilmap
 |map i b h hb=>intro v' hw;cases v'<;>simp [Wk] at hw;subst hw;exact .map i b h hb
 |fn f xs ys az bs h1 h2 hx hy _ _=>intro v' hw;cases v'<;>simp [Wk] at hw;obtain ⟨rfl,rfl,rfl⟩:=hw;exact .fn f xs ys az bs h1 h2 hx hy
 |nilfn=>intro v' hw;cases v'<;>simp [Wk] at hw;exact .nilfn
 |ifc t v x h _=>intro v' hw;cases v'<;>simp [Wk] at hw;obtain ⟨rfl,rfl⟩:=hw;exact .ifc t v x h
 |nilifc=>intro v' hw;cases v'<;>simp [Wk] at hw;exact .nilifc
 |yld i b h hb=>intro v' hw;cases v'<;>simp [Wk] at hw;subst hw;exact .yld i b h hb
 |room g sz t n b c hn hm h=>intro v' hw;cases v'<;>simp [Wk] at hw;obtain ⟨rfl,rfl,rfl,rfl⟩:=hw;exact .room g sz t n b c hn hm h
 |vrow i off n b c hnc hcm h hb=>intro v' hw;cases v'<;>simp [Wk] at hw;obtain ⟨rfl,rfl,rfl⟩:=hw;exact .vrow i off n b c hnc hcm h hb
 |ms i sz n b c hnc hcm h hb hcp=>intro v' hw;cases v'<;>simp [Wk] at hw;obtain ⟨rfl,rfl,rfl⟩:=hw;exact .ms i sz n b c hnc hcm h hb hcp
theorem ACall.wk {C:Cx} {f:FuncId} {args args':List AVal} {S S':St} {r r':AVal} (h:ACall C f args S r S') (ha:Wks args' args) (hr:Wk r r'):ACall C f args' S r' S' :=
 ⟨h.callable,fun E vs hE hES hvs hrel=>(h.ok E vs hE hES (hvs.trans (Wks_length ha)) fun j hj=>(hrel j (by rw [Wks_length ha];exact hj)).wk (Wks_get ha j (by rw [Wks_length ha];exact hj) hj)).mono
  fun _ _ ⟨E',v,h1,h2,h3,h4,h5,h6⟩=>⟨E',v,h1,h2,h3,h4,h5,h6.wk hr⟩⟩
theorem APure.wk {C:Cx} {f:FuncId} {args args':List AVal} {r r':AVal} (h:APure C f args r) (ha:Wks args' args) (hr:Wk r r'):APure C f args' r' :=
 ⟨h.callable,fun w im0 vs hE hvs hrel=>(h.ok w im0 vs hE (hvs.trans (Wks_length ha)) fun j hj=>(hrel j (by rw [Wks_length ha];exact hj)).wk (Wks_get ha j (by rw [Wks_length ha];exact hj) hj)).mono
  fun _ _ ⟨v,h1,h2,h3⟩=>⟨v,h1,h2,h3.wk hr⟩⟩
theorem apure_introD {C:Cx} {N:Nat} (hC:C.Ok) {f:FuncId} {l:LC} {rs:List ResultVar} (hf:FnOk C f l N rs) (p:FuncId→Bool) (q:Nat→Option UL) (hb:BodyOk C f p q) {args:List AVal} (hlen:args.length≤N) {r:AVal}
  (h:aC (C.wp p q) N l (fun e fr T=>isRet e∧match aRes C fr T rs with|some (sd,v)=>sd∧Wk v r∧Closed r|none=>False) (frame0 args) []):APure C f args r:=by
 refine ⟨hf.callable,fun w im0 vs hE hvs hr=>?_⟩
 refine (calls_body hC hf p q hb hlen (S:=[]) (K:=fun v _=>Wk v r∧Closed r) h (env0 w im0) vs hE rfl hvs hr).mono ?_
 rintro e w' ⟨E',x,v,h1,rfl,h3,h4,h5,h6,h7⟩
 refine ⟨x,h1,h4.grown rfl (Nat.le_refl _),?_⟩
 have hs:Sees E' ⟨E'.w,[],[],w.heap.size,im0,w.heap.size⟩:=by
  refine ⟨fun b o hi=>⟨⟨hi.1,?_⟩,rfl⟩⟩
  have hbase:E'.base=w.heap.size:=h4.base
  have him:E'.im0=im0:=h4.im0
  have h2:=hi.2
  rw [hbase,him] at h2
  rcases h2 with h2|h2|h2
  ·exact .inl h2
  ·exact .inr (.inl ⟨h2.1,fun i=>by simp⟩)
  ·exact .inr (.inl ⟨h2.1,fun i=>by simp⟩)
 exact h7.move hs (h5.wk h6)
section
variable {C:Cx} {p:FuncId→Bool} {q:Nat→Option UL} {d:Option Nat} {gd:Option (Option Nat × Bool)} {x:Operand} {xs:Array Operand} {ts:Array TypeId} {rest:List LO} {Q:Fr→St→Prop} {fr:Fr} {S S':St} {f:FuncId} {az bs cargs:List AVal} {r:AVal} {fr':Fr}
theorem aLB_aW {U:UL} {B:List (Option Nat × Nat)} (hc:ACall C f cargs S r S') (hp:p f=false) (hg:wantL gd fr=some true) (hx:aEval (C.wp p q) fr.get x = .fn (.func f) az bs) (ha:Wks (az++xs.toList.map (aEval (C.wp p q) fr.get)++bs) cargs) (hf:fr.put d r=fr') (hk:∀ e∈B,(e.1,d)∈U→S'[e.2]? = S[e.2]?)
  (k:aL (C.wp p q) (some (U,B,[])) rest Q fr' S'):aL (C.wp p q) (some (U,B,[])) (⟨d,.call ⟨.value x,xs,ts⟩,gd⟩::rest) Q fr S :=
 aLB_call hg hx rfl ((hc.wk ha (Wk_refl r)).callX hp) hf hk k
end
theorem wk_agg (a b:List AVal):Wk (.agg a) (.agg b)↔Wks a b:=by simp only [Wk]
theorem wk_tup (a b:List AVal):Wk (.tup a) (.tup b)↔Wks a b:=by simp only [Wk]
theorem wk_sl (sz:Nat) (nl:Bool) (xs:List AVal) (tg:Tag):Wk (.sl sz nl xs tg) (.sl sz nl xs .any)↔True:=by simp [Wk]
theorem wk_nil (sz sz':Nat) (tg:Tag):Wk (.sl sz true [] tg) (.sl sz' true [] .any)↔True:=by simp [Wk]
theorem wk_bool (a b:Bool):Wk (.bool a) (.bool b)↔a=b:=by simp [Wk]
theorem wk_int (k q:IntKind) (a b:Int):Wk (.int k a) (.int q b)↔k=q∧a=b:=by simp [Wk]
theorem wk_str (a b:List UInt8):Wk (.str a) (.str b)↔a=b:=by simp [Wk]
theorem wk_self (v:AVal):Wk v v↔True:=⟨fun _=>trivial,fun _=>Wk_refl v⟩
theorem wks_self (v:List AVal):Wks v v↔True:=⟨fun _=>trivial,fun _=>Wks_refl v⟩
theorem wks_nil:Wks [] []↔True:=by simp only [Wks]
theorem wks_cons (a b:AVal) (az bs:List AVal):Wks (a::az) (b::bs)↔Wk a b∧Wks az bs:=by simp only [Wks]
attribute [go_sem] wk_bool wk_int wk_str wk_agg wk_tup wk_sl wk_nil wk_self wks_self wks_nil wks_cons Wks_app
end
end Go.Am
