/- The abstract layer: two aggregates of plain cells are held against each other. -/
import Derived.Test.YteemcehaekffeaaGreatAmOps
import Derived.ChangeKeysEq
import Derived.Laws.Externs
set_option linter.unusedVariables false
set_option linter.unusedSimpArgs false
section
namespace Go.Am
open Go
noncomputable section
open Classical
def skb:AVal→AVal→Bool
 |.int k _,.int k' _=>k==k'
 |.bool _,.bool _=>true
 |.str _,.str _=>true
 |_,_=>false
def skbs:List AVal→List AVal→Bool
 |[],[]=>true
 |a::as,b::bs=>skb a b&&skbs as bs
 |_,_=>false
theorem skbs_iff {xs ys:List AVal}:skbs xs ys=true↔xs.length=ys.length∧∀ k (h:k<xs.length) (h':k<ys.length),skb xs[k] ys[k]=true:=by
 induction xs generalizing ys with
 |nil=>cases ys<;>simp [skbs]
 |cons a as ih =>
  cases ys with
  |nil=>simp [skbs]
  |cons b bs =>
   simp only [skbs,Bool.and_eq_true,ih,List.length_cons]
   constructor
   ·rintro ⟨h1,h2,h3⟩
    refine ⟨by omega,fun k h h'=>?_⟩
    cases k with
    |zero=>exact h1
    |succ k=>exact h3 k (by omega) (by omega)
   ·rintro ⟨h1,h2⟩
    exact ⟨h2 0 (by omega) (by omega),by omega,fun k h h'=>h2 (k+1) (by omega) (by omega)⟩
theorem skb_trans {a b c:AVal} (h:skb a b=true) (h':skb c b=true):skb a c=true:=by
 cases a<;>cases b<;>simp_all [skb]<;>cases c<;>simp_all [skb]
theorem skbs_part {xs ys:List AVal} (h:skbs xs ys=true) (o n:Nat):skbs ((xs.drop o).take n) ((ys.drop o).take n)=true:=by
 rw [skbs_iff] at h ⊢
 refine ⟨by simp [h.1],fun k h1 h2=>?_⟩
 simp only [List.getElem_take,List.getElem_drop]
 exact h.2 _ _ _
theorem skb_symm {a b:AVal} (h:skb a b=true):skb b a=true:=by
 cases a<;>cases b<;>simp_all [skb]
theorem skbs_trans' {a b c:List AVal} (h:skbs a b=true) (h':skbs b c=true):skbs a c=true:=by
 rw [skbs_iff] at h h' ⊢
 refine ⟨by omega,fun k h1 h2=>skb_trans (h.2 k h1 (by omega)) (skb_symm (h'.2 k (by omega) h2))⟩
def flatT (P:Program) (T:TypeId→Option TI):Nat→TypeId→Bool
 |0,_=>false
 |n+1,t=>match T t with
  |none=>false
  |some i=>match i.d with
   |.bool=>match i.zero with|[.bool _]=>true|_=>false
   |.int _=>match i.zero with|[.int _ _]=>true|_=>false
   |.string=>match i.zero with|[.str _]=>true|_=>false
   |.array m e=>match T e with
    |some j=>flatT P T n e&&(i.size==m*j.size)&&decide (0<j.size)&&(List.range m).all (fun k=>skbs ((i.zero.drop (k*j.size)).take j.size) j.zero)
    |none=>false
   |.struct fs => !P.stoodInHeld t&&fs.toList.all (fun f=>f.name != "_" && flatT P T n f.type&&(match T f.type with|some j=>decide (f.offset+j.size≤i.size)&&skbs ((i.zero.drop f.offset).take j.size) j.zero|none=>false)) &&
     (List.range i.size).all (fun p=>fs.toList.any fun f=>match T f.type with|some j=>decide (f.offset≤p)&&decide (p<f.offset+j.size)|none=>false)
   |_=>false
section
variable {P:Program} {G:Nat→Option AVal} {E:Env}
def EqOk (P:Program) (n:Nat) (t:TypeId) (i:TI):Prop :=
 ∀ (E:Env) (d:Nat) (xs ys:List AVal) (x y:Value),skbs xs i.zero=true→skbs ys i.zero=true→R E (ofCells i xs) x→R E (ofCells i ys) y →
  (Op.equalIn (d+n) t x y).run P E.w = .ok (decide (xs=ys)) E.w
theorem zero_len {t:TypeId} {i:TI} (hi:i.ok P t):i.zero.length=i.size:=by
 obtain ⟨_,_,_,_,_,h,_⟩:=ofCells_zero hi
 exact h
theorem eqItems_ok {e:TypeId} {j:TI} {d:Nat} (hj:j.ok P e) (hc:P.cellsOf e=j.size) (IH:∀ (xs ys:List AVal) (x y:Value),skbs xs j.zero=true→skbs ys j.zero=true→R E (ofCells j xs) x→R E (ofCells j ys) y→(Op.equalIn d e x y).run P E.w = .ok (decide (xs=ys)) E.w)
  {xs ys:List AVal} {as bs:Array Value} (h1:as.size=xs.length) (h2:bs.size=ys.length) (rx:∀ k (h:k<xs.length),R E xs[k] (as.getD k undef)) (ry:∀ k (h:k<ys.length),R E ys[k] (bs.getD k undef)) :
  ∀ is:List Nat,(∀ k∈is,skbs ((xs.drop (k*j.size)).take j.size) j.zero=true∧skbs ((ys.drop (k*j.size)).take j.size) j.zero=true∧k*j.size+j.size≤xs.length∧k*j.size+j.size≤ys.length) →
   (Op.eqItems d e (P.cellsOf e) as bs is).run P E.w = .ok (decide (∀ k∈is,(xs.drop (k*j.size)).take j.size=(ys.drop (k*j.size)).take j.size)) E.w:=by
 intro is
 induction is with
 |nil=>intro _;simp [Op.eqItems]
 |cons k is ih =>
  intro h
  obtain ⟨z1,z2,l1,l2⟩:=h k (List.mem_cons_self ..)
  rw [hc] at ih ⊢
  obtain ⟨a,pa,ra⟩:=run_part (P:=P) hj h1 rx (k*j.size) l1 E.w
  obtain ⟨b,pb,rb⟩:=run_part (P:=P) hj h2 ry (k*j.size) l2 E.w
  have he:=IH _ _ a b z1 z2 ra rb
  simp only [Op.eqItems,Sem.run_bind,pa,pb,he,Result.andThen_ok]
  by_cases heq:(xs.drop (k*j.size)).take j.size=(ys.drop (k*j.size)).take j.size
  ·simp only [heq,decide_true,Bool.not_true,Bool.false_eq_true,if_false]
   rw [ih (fun k' hk=>h k' (List.mem_cons_of_mem _ hk))]
   simp [heq]
  ·simp only [heq,decide_false,Bool.not_false,if_true,Sem.run_pure]
   simp [heq]
theorem eqFields_ok {T:TypeId→Option TI} (hT:TOk P T) {d:Nat} {xs ys:List AVal} {as bs:Array Value} (h1:as.size=xs.length) (h2:bs.size=ys.length) (rx:∀ k (h:k<xs.length),R E xs[k] (as.getD k undef)) (ry:∀ k (h:k<ys.length),R E ys[k] (bs.getD k undef)) :
  ∀ fs:List Field,(∀ f∈fs,f.name ≠ "_" ∧ ∃ j,T f.type=some j∧f.offset+j.size≤xs.length∧f.offset+j.size≤ys.length∧skbs ((xs.drop f.offset).take j.size) j.zero=true∧skbs ((ys.drop f.offset).take j.size) j.zero=true ∧
    ∀ (xs ys:List AVal) (x y:Value),skbs xs j.zero=true→skbs ys j.zero=true→R E (ofCells j xs) x→R E (ofCells j ys) y→(Op.equalIn d f.type x y).run P E.w = .ok (decide (xs=ys)) E.w) →
   (Op.eqFields d as bs fs).run P E.w = .ok (decide (∀ f∈fs,∀ j,T f.type=some j→(xs.drop f.offset).take j.size=(ys.drop f.offset).take j.size)) E.w:=by
 intro fs
 induction fs with
 |nil=>intro _;simp [Op.eqFields]
 |cons f fs ih =>
  intro h
  obtain ⟨hn,j,hj,l1,l2,z1,z2,IH⟩:=h f (List.mem_cons_self ..)
  obtain ⟨a,pa,ra⟩:=run_part (P:=P) (hT.ok _ _ hj) h1 rx f.offset l1 E.w
  obtain ⟨b,pb,rb⟩:=run_part (P:=P) (hT.ok _ _ hj) h2 ry f.offset l2 E.w
  have he:=IH _ _ a b z1 z2 ra rb
  simp only [Op.eqFields,hn,ne_eq,not_false_eq_true,if_true,Sem.run_bind,pa,pb,he,Result.andThen_ok]
  by_cases heq:(xs.drop f.offset).take j.size=(ys.drop f.offset).take j.size
  ·simp only [heq,decide_true,Bool.not_true,Bool.false_eq_true,if_false]
   rw [ih (fun g hg=>h g (List.mem_cons_of_mem _ hg))]
   congr 2
   simp [hj,heq]
  ·simp only [heq,decide_false,Bool.not_false,if_true,Sem.run_pure]
   congr 1
   symm
   rw [decide_eq_false_iff_not]
   intro hh
   exact heq (hh f (List.mem_cons_self ..) j hj)
theorem chunks_eq {xs ys:List AVal} {m c:Nat} (h1:xs.length=m*c) (h2:ys.length=m*c) (hc:0<c) :
  (∀ k∈List.range m,(xs.drop (k*c)).take c=(ys.drop (k*c)).take c)↔xs=ys:=by
 constructor
 ·intro h
  apply List.ext_getElem (by omega)
  intro p hp hp'
  have hk:p/c<m:=by rw [Nat.div_lt_iff_lt_mul hc];omega
  have hd:p/c*c+p%c=p:=by rw [Nat.mul_comm];exact Nat.div_add_mod p c
  have hm:p%c<c:=Nat.mod_lt _ hc
  have:=h (p/c) (List.mem_range.2 hk)
  have e:=congrArg (fun l=>l[p%c]?) this
  simp only [List.getElem?_take,hm,if_true,List.getElem?_drop,hd] at e
  rw [List.getElem?_eq_getElem hp,List.getElem?_eq_getElem hp'] at e
  injection e
 ·rintro rfl _ _;rfl
theorem eq_ok {T:TypeId→Option TI} (hT:TOk P T) (hcell:∀ t i,T t=some i→P.cellsOf t=i.size):∀ (n:Nat) (t:TypeId) (i:TI),T t=some i→flatT P T n t=true→EqOk P n t i:=by
 intro n
 induction n with
 |zero=>intro t i _ h;simp [flatT] at h
 |succ n IH =>
  intro t i ht hf E d xs ys x y zx zy hx hy
  have hi:=hT.ok t i ht
  have hzl:=zero_len hi
  have hlx:xs.length=i.size:=by rw [← hzl];exact (skbs_iff.1 zx).1
  have hly:ys.length=i.size:=by rw [← hzl];exact (skbs_iff.1 zy).1
  have hu:=hi.1
  unfold flatT at hf
  simp only [ht] at hf
  have scalar:i.isAgg=false→∀ (z:AVal),i.zero=[z]→∃ a b,xs=[a]∧ys=[b]∧skb a z=true∧skb b z=true∧R E a x∧R E b y:=by
   intro hag z hz
   rw [hz] at zx zy
   obtain ⟨a,rfl⟩:=List.length_eq_one_iff.1 (skbs_iff.1 zx).1
   obtain ⟨b,rfl⟩:=List.length_eq_one_iff.1 (skbs_iff.1 zy).1
   refine ⟨a,b,rfl,rfl,by simpa [skbs] using zx,by simpa [skbs] using zy,?_,?_⟩
   ·simpa [ofCells,hag] using hx
   ·simpa [ofCells,hag] using hy
  cases hd:i.d<;>simp only [hd] at hf<;>try (cases hf;done)
  case bool =>
   have hag:i.isAgg=false:=by simp [TI.isAgg,hd,isAggD]
   split at hf
   ·next z hz =>
    obtain ⟨a,b,rfl,rfl,sa,sb,ra,rb⟩:=scalar hag _ hz
    cases a<;>simp only [skb,reduceCtorEq] at sa
    cases b<;>simp only [skb,reduceCtorEq] at sb
    rw [ra.bool_inv,rb.bool_inv,show d+(n+1)=(d+n)+1 from rfl,run_equalIn_bool' E.w _ _ _ _ (by rw [hu,hd])]
    congr 1
    rename_i a b
    cases a<;>cases b<;>simp
   ·cases hf
  case int k' =>
   have hag:i.isAgg=false:=by simp [TI.isAgg,hd,isAggD]
   split at hf
   ·next kz nz hz =>
    obtain ⟨a,b,rfl,rfl,sa,sb,ra,rb⟩:=scalar hag _ hz
    cases a<;>simp only [skb,reduceCtorEq,beq_iff_eq] at sa
    cases b<;>simp only [skb,reduceCtorEq,beq_iff_eq] at sb
    subst sa;subst sb
    rw [ra.int_inv,rb.int_inv,show d+(n+1)=(d+n)+1 from rfl]
    have:=run_equalIn_int (P:=P) E.w (d+n) t
    rename_i a _ b
    rw [this _ k' _ _ (by rw [hu,hd])]
    congr 1
    by_cases e:a=b
    ·subst e;simp
    ·simp [e]
   ·cases hf
  case string =>
   have hag:i.isAgg=false:=by simp [TI.isAgg,hd,isAggD]
   split at hf
   ·next z hz =>
    obtain ⟨a,b,rfl,rfl,sa,sb,ra,rb⟩:=scalar hag _ hz
    cases a<;>simp only [skb,reduceCtorEq] at sa
    cases b<;>simp only [skb,reduceCtorEq] at sb
    cases ra with
    |str s _ h1 =>
     cases rb with
     |str u _ h2 =>
      rw [show d+(n+1)=(d+n)+1 from rfl,run_equalIn_string E.w _ _ _ _ (by rw [hu,hd]),ByteArray.toList_eq,ByteArray.toList_eq,h1,h2]
      congr 1
      rename_i l1 l2
      by_cases e:l1=l2
      ·subst e;simp
      ·simp [e]
   ·cases hf
  case array m e =>
   have hag:i.isAgg=true:=by simp [TI.isAgg,hd,isAggD]
   cases hj:T e with
   |none=>simp [hj] at hf
   |some j =>
    simp only [hj,Bool.and_eq_true,beq_iff_eq,decide_eq_true_eq,List.all_eq_true] at hf
    obtain ⟨⟨⟨hfe,hsz⟩,hpos⟩,hz⟩:=hf
    have hje:=hT.ok e j hj
    obtain ⟨_,inf,_,hinf,_⟩:=hje.2
    have hinf:P.info? e=some hje.2.choose:=hje.2.choose_spec.choose_spec.1
    simp only [ofCells,hag,if_true] at hx hy
    cases hx with
    |agg _ as h1 rx =>
     cases hy with
     |agg _ bs h2 ry =>
      rw [show d+(n+1)=(d+n)+1 from rfl,run_equalIn_array E.w (d+n) as bs (by rw [hu,hd]) hinf]
      rw [eqItems_ok (E:=E) (d:=d+n) hje (hcell e j hj) (fun xs ys x y=>IH e j hj hfe E d xs ys x y) h1 h2 rx ry (List.range m) (fun k hk=>by
       have hk':=List.mem_range.1 hk
       have hle:k*j.size+j.size≤m*j.size:=by
        have:(k+1)*j.size≤m*j.size:=Nat.mul_le_mul_right _ hk'
        rw [Nat.add_mul] at this;omega
       exact ⟨skbs_trans' (skbs_part zx _ _) (hz k hk),skbs_trans' (skbs_part zy _ _) (hz k hk),by omega,by omega⟩)]
      congr 1
      exact decide_eq_decide.2 (chunks_eq (by omega) (by omega) hpos)
  case struct fs =>
   have hag:i.isAgg=true:=by simp [TI.isAgg,hd,isAggD]
   simp only [Bool.and_eq_true,Bool.not_eq_true',List.all_eq_true,List.any_eq_true,bne_iff_ne,ne_eq] at hf
   obtain ⟨⟨hst,hfs⟩,hcov⟩:=hf
   have hfo:P.fieldsOf t=fs:=by simp [Program.fieldsOf,hu,hd]
   simp only [ofCells,hag,if_true] at hx hy
   cases hx with
   |agg _ as h1 rx =>
    cases hy with
    |agg _ bs h2 ry =>
     rw [show d+(n+1)=(d+n)+1 from rfl,run_equalIn_agg E.w (d+n) t as bs (by rw [hfo,hu,hd]) hst,hfo]
     rw [eqFields_ok hT h1 h2 rx ry fs.toList (fun f hfm=>by
      obtain ⟨⟨hn,hfl⟩,hrest⟩:=hfs f hfm
      cases hj:T f.type with
      |none=>simp [hj] at hrest
      |some j =>
       simp only [hj,Bool.and_eq_true,decide_eq_true_eq] at hrest
       exact ⟨hn,j,rfl,by omega,by omega,skbs_trans' (skbs_part zx _ _) hrest.2,skbs_trans' (skbs_part zy _ _) hrest.2,fun xs ys x y=>IH f.type j hj hfl E d xs ys x y⟩)]
     congr 1
     refine decide_eq_decide.2 ⟨fun h=>?_,fun h=>by subst h;intros;rfl⟩
     apply List.ext_getElem (by omega)
     intro p hp hp'
     obtain ⟨f,hfm,hff⟩:=hcov p (List.mem_range.2 (by omega))
     cases hj:T f.type with
     |none=>simp [hj] at hff
     |some j =>
      simp only [hj,Bool.and_eq_true,decide_eq_true_eq] at hff
      have e:=congrArg (fun l=>l[p-f.offset]?) (h f hfm j hj)
      have hlt:p-f.offset<j.size:=by omega
      simp only [List.getElem?_take,hlt,if_true,List.getElem?_drop,show f.offset+(p-f.offset)=p by omega] at e
      rw [List.getElem?_eq_getElem hp,List.getElem?_eq_getElem hp'] at e
      injection e
end
end
end Go.Am
end
section
namespace Go.Am
open Go
abbrev UL:=List (Option Nat × Option Nat)
structure Cx where
 P:Program
 T:TypeId→Option TI
 G:Nat→Option AVal
 pc:FuncId→Bool
 bm:Nat→Option UL
structure Cx.Ok (C:Cx):Prop where
 T:TOk C.P C.T
 cells:∀ t i,C.T t=some i→C.P.cellsOf t=i.size
 mixed:C.P.follows .mixedOrders=true
structure FW (F:Fence):Prop where
 fn:∀ f,F.fn f
 depth:F.depth=none
 alive:F.alive=false
theorem FW.wide:FW Fence.wide:=⟨fun _=>trivial,rfl,rfl⟩
theorem FW.inRound {F:Fence} (h:FW F) (l:Nat):FW (F.inRound l):=⟨h.fn,h.depth,h.alive⟩
theorem FW.fenced {F:Fence} (h:FW F) (P:Program) (m:Machine):m.fenced P F:=by
 intro g _
 refine ⟨fun e=>?_,Or.inl (h.fn _),fun _ _=>h.fn _,fun d hd=>?_⟩
 ·rw [h.alive] at e;cases e
 ·rw [h.depth] at hd;cases hd
theorem FW.room {F:Fence} (h:FW F) (n:Nat):F.room n:=fun d hd=>by rw [h.depth] at hd;cases hd
theorem FW.callsIn {F:Fence} (h:FW F) {n:Nat} {P:Program} {f:FuncId} {args:Array Value} {w:World} {R:Ending→World→Prop}:CallsIn F n P f args w R↔Calls P f args w R:=by
 have key:∀ m m',StepsIn (Machine.fenced P F) P m m'↔Steps P m m':=fun m m' =>
  ⟨StepsIn.steps,fun k=>(StepsIn.of_steps k).mono fun m _=>h.fenced P m⟩
 have kc:∀ m m' e,ComesIn (Machine.fenced P F) P m m' e↔Comes P m m' e:=by
  intro m m' e
  cases e with
  |returned v=>exact key m m'
  |panicked chain=>exact key m m'
  |outgrown=>exact Iff.rfl
 exact ⟨fun k cs=>let ⟨e,w',fr,r,s,x⟩:=k.2 cs (h.room _);⟨e,w',fr,r,(kc _ _ _).1 s,x⟩,
  fun k=>⟨h.fn _,fun cs _=>let ⟨e,w',fr,r,s,x⟩:=k cs;⟨e,w',fr,r,(kc _ _ _).2 s,x⟩⟩⟩
def ofConst:Value→AVal
 |.agg cs=>.agg (cs.toList.map ofCell)
 |.tuple cs=>.tup (cs.toList.map ofCell)
 |v=>ofCell v
theorem R.ofConst (E:Env) (v:Value):R E (ofConst v) v:=by
 unfold Am.ofConst
 split
 ·exact .agg _ _ (by simp) fun j hj=>by
   simp only [List.length_map,Array.length_toList] at hj
   simp only [List.getElem_map,Array.getElem_toList,Array.getD,hj,dite_true]
   exact .ofCell _ _
 ·exact .tup _ _ (by simp) fun j hj=>by
   simp only [List.length_map,Array.length_toList] at hj
   simp only [List.getElem_map,Array.getElem_toList,Array.getD,hj,dite_true]
   exact .ofCell _ _
 ·exact .ofCell _ _
def aEval (C:Cx) (g:Nat→AVal):Operand→AVal
 |.tmp t=>g t
 |.const v=>ofConst v
 |.global x=>(C.G x).getD .any
 |.func f=>.fn (.func f) [] []
theorem R.eval {C:Cx} {E:Env} {N:Nat} {g:Nat→AVal} {a:Act} (hE:Wf C.G E) (h:RF E N g a) (x:Operand):R E (aEval C g x) (a.eval x):=by
 cases x with
 |tmp t=>exact h.slot t
 |const v=>exact .ofConst _ _
 |global y =>
  simp only [aEval,Act.eval]
  cases hg:C.G y with
  |none=>exact .any _
  |some v=>exact (hE.glob y v hg).r
 |func f=>exact .fn _ _ _ _ _ rfl rfl (fun j h=>by simp at h) (fun j h=>by simp at h)
def OpOk (C:Cx) (o:Oper) (g:Nat→AVal) (S:St) (r:AVal) (S':St):Prop :=
 ∀ (F:Fence) (n:Nat),FW F→∀ (E:Env) (N:Nat) (a:Act),Wf C.G E→E.S=S→RF E N g a→∀ (next:Act→World→Prop) (Q:Exit→Act→World→Prop),
  (∀ E' x,Ext E E'→Wf C.G E'→E'.S=S'→R E' r x→next (a.put o.dst x) E'.w)→o.wpIn F n C.P a E.w next Q
theorem OpOk.of_run {C:Cx} {o:Oper} {g:Nat→AVal} {S S':St} {r:AVal} (hnd:∀ c,o.op ≠ .defer c)
  (h:∀ (E:Env) (N:Nat) (a:Act),Wf C.G E→E.S=S→RF E N g a→∃ E' x nx,(execOp a.eval o).run C.P E.w = .ok nx E'.w∧(nx = .value x∨(nx = .skip∧x=undef))∧Ext E E'∧Wf C.G E'∧E'.S=S'∧R E' r x) :
  OpOk C o g S r S':=by
 intro F n hF E N a hE hS hr next Q hk
 obtain ⟨E',x,nx,h1,h2,h3,h4,h5,h6⟩:=h E N a hE hS hr
 refine ⟨fun f _=>hF.fn f,?_⟩
 rw [Oper.semAt_eq _ _ _ hnd,h1]
 rcases h2 with rfl|⟨rfl,rfl⟩
 ·exact hk E' x h3 h4 h5 h6
 ·exact hk E' _ h3 h4 h5 h6
structure ACall (C:Cx) (f:FuncId) (args:List AVal) (S:St) (r:AVal) (S':St):Prop where
 callable:∃ fn,C.P.funcs[f]? = some fn∧fn.body.isSome=true∧(fn.name == "runtime.NumGoroutine")=false
 ok:∀ (E:Env) (vs:Array Value),Wf C.G E→E.S=S→vs.size=args.length→(∀ j (h:j<args.length),R E args[j] (vs.getD j undef)) →
  Calls C.P f vs E.w fun e w'=>∃ E' v,e = .returned v∧E'.w=w'∧Wf C.G E'∧Ext E E'∧E'.S=S'∧R E' r v
structure AExt (C:Cx) (f:FuncId) (args:List AVal) (r:AVal):Prop where
 ex:∃ fn e,C.P.funcs[f]? = some fn∧(fn.name == "runtime.NumGoroutine")=false∧fn.body.isNone=true∧Extern.findNext fn=none∧Extern.find fn=some e ∧
  ∀ (E:Env) (vs:Array Value),Wf C.G E→vs.size=args.length→(∀ j (h:j<args.length),R E args[j] (vs.getD j undef))→∃ v,(e vs).run C.P E.w = .ok v E.w∧R E r v
def AYield (C:Cx) (i:Nat) (args:List AVal) (S:St) (r:AVal) (S':St):Prop :=
 ∀ (F:Fence) (n:Nat),FW F→∀ (E:Env) (vs:Array Value) (b:Nat),Wf C.G E→E.S=S→E.mu[i]? = some (some b)→vs.size=args.length→(∀ j (h:j<args.length),R E args[j] (vs.getD j undef)) →
  ∃ fn tmps asg body,(Instr.yield b vs).run C.P E.w = .ok (.round b fn tmps asg body) E.w ∧
   RoundIn F n C.P b fn tmps asg body E.w fun e w'=>∃ E' v,e = .returned v∧E'.w=w'∧Wf C.G E'∧Ext E E'∧E'.S=S'∧R E' r v
def CallA (C:Cx) (f:FuncId) (args:List AVal) (S:St) (r:AVal) (S':St):Prop:=ACall C f args S r S'∨(S'=S∧AExt C f args r)
def CallX (C:Cx) (f:FuncId) (args:List AVal) (S:St) (r:AVal) (S':St):Prop :=
 CallA C f args S r S'∧(C.pc f=true→S'=S∧∀ U,CallA C f args U r U)
theorem args_rel {C:Cx} {E:Env} {N:Nat} {g:Nat→AVal} {a:Act} (hE:Wf C.G E) (hr:RF E N g a) {xs:Array Operand} {first captured:List AVal} {as bs:Array Value} (l1:as.size=first.length) (l2:bs.size=captured.length)
  (rx:∀ j (h:j<first.length),R E first[j] (as.getD j undef)) (ry:∀ j (h:j<captured.length),R E captured[j] (bs.getD j undef)) :
  ∀ j (hj:j<(first++xs.toList.map (aEval C g)++captured).length),R E ((first++xs.toList.map (aEval C g)++captured)[j]) ((as++xs.map a.eval++bs).getD j undef):=by
 intro j hj
 simp only [List.length_append,List.length_map,Array.length_toList] at hj
 simp only [Array.getD_eq_getD_getElem?]
 by_cases j1:j<first.length
 ·rw [Array.getElem?_append_left (by simp;omega),Array.getElem?_append_left (by omega)]
  rw [List.getElem_append_left (by simp;omega),List.getElem_append_left j1]
  have:=rx j j1
  rwa [Array.getD_eq_getD_getElem?] at this
 ·by_cases j2:j<first.length+xs.size
  ·rw [Array.getElem?_append_left (by simp;omega),Array.getElem?_append_right (by omega)]
   rw [List.getElem_append_left (by simp;omega),List.getElem_append_right (by omega)]
   have hlt:j-as.size<xs.size:=by omega
   have e1:(xs.map a.eval)[j-as.size]? = some (a.eval xs[j-as.size]):=by simp [hlt]
   rw [e1]
   simp only [List.getElem_map,Array.getElem_toList,l1,Option.getD_some]
   exact R.eval hE hr _
  ·rw [Array.getElem?_append_right (by simp;omega)]
   rw [List.getElem_append_right (by simp;omega)]
   have hlt:j-(first.length+xs.size)<captured.length:=by omega
   have:=ry _ hlt
   rw [Array.getD_eq_getD_getElem?] at this
   simpa [l1] using this
theorem OpOk.of_ext {C:Cx} {o:Oper} {g:Nat→AVal} {S:St} {r:AVal} {x:Operand} {xs:Array Operand} {ts:Array TypeId} {f:FuncId} {first captured:List AVal} (ho:o.op = .call { callee:=.value x,args:=xs,argTypes:=ts })
  (hf:aEval C g x = .fn (.func f) first captured) (h:AExt C f (first++xs.toList.map (aEval C g)++captured) r):OpOk C o g S r S:=by
 refine OpOk.of_run (fun c hc=>by rw [ho] at hc;cases hc) fun E N a hE hS hr=>?_
 obtain ⟨fn,e,h1,h2,h3,h4,h5,h6⟩:=h.ex
 have hx:=R.eval hE hr x
 rw [hf] at hx
 generalize hv:a.eval x=v at hx
 cases hx with
 |fn _ _ _ as bs l1 l2 rx ry =>
  obtain ⟨v,v1,v2⟩:=h6 E (as++xs.map a.eval++bs) hE (by simp [l1,l2]) (args_rel hE hr l1 l2 rx ry)
  refine ⟨E,v,.value v,?_,.inl rfl,Ext.refl E,hE,hS,v2⟩
  simp only [execOp,ho,resolve,Sem.run_bind,Deferred.ofValue,hv,Sem.run_pure,Result.andThen_ok,invoke]
  rw [run_callFunc_extern h1 h2 h3 h4 h5,v1]
  rfl
theorem OpOk.of_call {C:Cx} {o:Oper} {g:Nat→AVal} {S S':St} {r:AVal} {x:Operand} {xs:Array Operand} {ts:Array TypeId} {f:FuncId} {first captured:List AVal} (ho:o.op = .call { callee:=.value x,args:=xs,argTypes:=ts })
  (hf:aEval C g x = .fn (.func f) first captured) (h:ACall C f (first++xs.toList.map (aEval C g)++captured) S r S'):OpOk C o g S r S':=by
 intro F n hF E N a hE hS hr next Q hk
 obtain ⟨fn,h1,h2,h3⟩:=h.callable
 have hx:=R.eval hE hr x
 rw [hf] at hx
 refine ⟨fun f _=>hF.fn f,?_⟩
 rw [Oper.semAt_eq _ _ _ (by rw [ho];intro c h;cases h)]
 generalize hv:a.eval x=v at hx
 cases hx with
 |fn _ _ _ as bs l1 l2 rx ry =>
  have hne:fn.body.isNone=false:=by cases hb:fn.body<;>simp [hb] at h2 ⊢
  have hrun:(execOp a.eval o).run C.P E.w = .ok (.enter f (as++xs.map a.eval++bs)) E.w:=by
   simp only [execOp,ho,resolve,Sem.run_bind,Deferred.ofValue,hv,Sem.run_pure,Result.andThen_ok,invoke,callFunc]
   simp only [program,Sem.run,Result.andThen_ok,h1,h3,hne,Bool.false_eq_true,if_false,Sem.run_pure]
  rw [hrun,Oper.uponIn_enter]
  refine ⟨fun hd=>(by rw [hF.depth] at hd;cases hd),hF.callsIn.2 ?_⟩
  refine (h.ok E (as++xs.map a.eval++bs) hE hS (by simp [l1,l2]) (fun j hj=>?_)).mono ?_
  ·simp only [List.length_append,List.length_map,Array.length_toList] at hj
   simp only [Array.getD_eq_getD_getElem?]
   by_cases j1:j<first.length
   ·rw [Array.getElem?_append_left (by simp;omega),Array.getElem?_append_left (by omega)]
    rw [List.getElem_append_left (by simp;omega),List.getElem_append_left j1]
    have:=rx j j1
    rwa [Array.getD_eq_getD_getElem?] at this
   ·by_cases j2:j<first.length+xs.size
    ·rw [Array.getElem?_append_left (by simp;omega),Array.getElem?_append_right (by omega)]
     rw [List.getElem_append_left (by simp;omega),List.getElem_append_right (by omega)]
     have hlt:j-as.size<xs.size:=by omega
     have e1:(xs.map a.eval)[j-as.size]? = some (a.eval xs[j-as.size]):=by simp [hlt]
     rw [e1]
     simp only [List.getElem_map,Array.getElem_toList,l1,Option.getD_some]
     exact R.eval hE hr _
    ·rw [Array.getElem?_append_right (by simp;omega)]
     rw [List.getElem_append_right (by simp;omega)]
     have hlt:j-(first.length+xs.size)<captured.length:=by omega
     have:=ry _ hlt
     rw [Array.getD_eq_getD_getElem?] at this
     simpa [l1] using this
  ·rintro e w' ⟨E',v,rfl,rfl,h4,h5,h6,h7⟩
   exact hk E' v h5 h4 h6 h7
theorem OpOk.of_yield {C:Cx} {o:Oper} {g:Nat→AVal} {S S':St} {r:AVal} {x:Operand} {xs:Array Operand} {ts:Array TypeId} {i:Nat} (ho:o.op = .call { callee:=.value x,args:=xs,argTypes:=ts })
  (hf:aEval C g x = .yld i) (h:AYield C i (xs.toList.map (aEval C g)) S r S'):OpOk C o g S r S':=by
 intro F n hF E N a hE hS hr next Q hk
 have hx:=R.eval hE hr x
 rw [hf] at hx
 refine ⟨fun f _=>hF.fn f,?_⟩
 rw [Oper.semAt_eq _ _ _ (by rw [ho];intro c h;cases h)]
 generalize hv:a.eval x=v at hx
 cases hx with
 |yld _ b hm hb =>
  obtain ⟨fn,tmps,asg,body,hy,hrd⟩:=h F (n-1) hF E (xs.map a.eval) b hE hS hm (by simp) (fun j hj=>by
   have hj':j<xs.size:=by simpa using hj
   have e1:(xs.map a.eval).getD j undef=a.eval xs[j]:=by simp [Array.getD_eq_getD_getElem?,hj']
   rw [e1]
   simp only [List.getElem_map,Array.getElem_toList]
   exact R.eval hE hr _)
  have hrun:(execOp a.eval o).run C.P E.w = .ok (.round b fn tmps asg body) E.w:=by
   simp only [execOp,ho,resolve,Sem.run_bind,Deferred.ofValue,hv,Sem.run_pure,Result.andThen_ok,invoke]
   simpa using hy
  rw [hrun,Oper.uponIn_round]
  refine ⟨fun hd=>(by rw [hF.depth] at hd;cases hd),hrd.mono ?_⟩
  rintro e w' ⟨E',v,rfl,rfl,h4,h5,h6,h7⟩
  exact hk E' v h5 h4 h6 h7
theorem OpOk.of_callA {C:Cx} {o:Oper} {g:Nat→AVal} {S S':St} {r:AVal} {x:Operand} {xs:Array Operand} {ts:Array TypeId} {f:FuncId} {first captured:List AVal} (ho:o.op = .call { callee:=.value x,args:=xs,argTypes:=ts })
  (hf:aEval C g x = .fn (.func f) first captured) (h:CallA C f (first++xs.toList.map (aEval C g)++captured) S r S'):OpOk C o g S r S':=by
 rcases h with h|⟨rfl,h⟩
 ·exact .of_call ho hf h
 ·exact .of_ext ho hf h
end Go.Am
end
