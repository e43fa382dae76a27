/- The abstract layer: a block that nobody has, and that holds no cells, turns; the marks at a function's end. -/
import Derived.Test.YteemcehaekffeaaGreatAmDraw
import Derived.RangeFuncLeaves
import Derived.RangeFuncNested
import Derived.RangeFuncOwn
import Derived.Maps.RangeRun
set_option linter.unusedVariables false
set_option linter.unusedSimpArgs false
section
namespace Go.Am
open Go
section
variable {G:Nat→Option AVal} {E:Env}
theorem R.same {E E':Env} (hb0:E'.base=E.base) (hsz0:E.w.heap.size≤E'.w.heap.size) (hmu:E'.mu=E.mu) (hS:E'.S=E.S) (hIm:∀ b o,E.Im b o→(E.w.cell? ⟨b,o,none⟩).isSome=true→E'.Im b o∧E'.w.cell? ⟨b,o,none⟩=E.w.cell? ⟨b,o,none⟩)
  (hmb:∀ i b:Nat,E.mu[i]? = some (some b)→E'.w.heap[b]? = E.w.heap[b]?) {v:AVal} {x:Value} (k:R E v x):R E' v x:=by
 have hol:∀ {ad:Addr} {j:Nat} {y:Value},E.holds ad j y→E'.holds ad j y:=by
  intro ad j y ⟨h1,h2,h3,h4⟩
  rw [add_form ad j h1] at h2
  obtain ⟨a,b⟩:=hIm _ _ h3 (by rw [h2];rfl)
  refine ⟨h1,?_,a,h4⟩
  rw [add_form ad j h1,b,h2]
 have tg:∀ {sz:Nat} {t:Tag} {a:Option Addr} {n c:Nat},E.tagOk sz t a n c→E'.tagOk sz t a n c:=by
  intro sz t a n c h
  cases t with
  |any=>trivial
  |full=>exact h
  |lit=>exact ⟨h.1,fun ad ha=>by obtain ⟨h1,h2,h3,h4⟩:=h.2 ad ha;exact ⟨h1,by rw [hb0];exact h2,Nat.lt_of_lt_of_le h3 hsz0,fun i=>by rw [hmu];exact h4 i⟩⟩
  |grow g =>
   obtain ⟨m,ty,h1,h2,h3⟩:=h
   refine ⟨m,ty,by rw [hS];exact h1,h2,fun e=>?_⟩
   rcases h3 e with ⟨k1,k2⟩|⟨b,arr,k1,k2,k3,k4⟩
   ·exact .inl ⟨by rw [hmu];exact k1,k2⟩
   ·exact .inr ⟨b,arr,by rw [hmu];exact k1,k2,(hmb _ _ k1).trans k3,k4⟩
  |own g =>
   obtain ⟨m,ty,h1,h2,h3⟩:=h
   refine ⟨m,ty,by rw [hS];exact h1,h2,fun e=>?_⟩
   rcases h3 e with ⟨k1,k2⟩|⟨b,arr,k1,k2,k3,k4⟩
   ·exact .inl ⟨by rw [hmu];exact k1,k2⟩
   ·exact .inr ⟨b,arr,by rw [hmu];exact k1,k2,(hmb _ _ k1).trans k3,k4⟩
 induction k with
 |any x=>exact .any x
 |raw x=>exact .raw x
 |int k n=>exact .int k n
 |bool b=>exact .bool b
 |str s l h=>exact .str s l h
 |nilp=>exact .nilp
 |ptr i off b hm hb=>exact .ptr i off b (by rw [hmu];exact hm) (by rw [hS];exact hb)
 |cptr cs ad f hf hr ih=>exact .cptr cs ad f (fun j hj=>hol (hf j hj)) ih
 |slnil sz t ht=>exact .slnil sz t (tg ht)
 |sl sz xs t ad n c f hn hc hm hf hsz hr ht ih=>exact .sl sz xs t ad n c f hn hc hm (fun j hj=>hol (hf j hj)) hsz ih (tg ht)
 |view i off n cap b hnc hm hb=>exact .view i off n cap b hnc (by rw [hmu];exact hm) (by rw [hS];exact hb)
 |vrow i off n b c hnc hcm hm hb=>exact .vrow i off n b c hnc hcm (by rw [hmu];exact hm) (by rw [hS];exact hb)
 |ms i sz n b c hnc hcm hm hb hcp =>
  exact .ms i sz n b c hnc hcm (by rw [hmu];exact hm) (by rw [hS];exact hb) fun cs t k=>by
   obtain ⟨arr,q,m,e1,e2⟩:=hcp cs t (by rw [← hS];exact k)
   exact ⟨arr,q,m,(hmb _ _ hm).trans e1,e2⟩
 |nilmap=>exact .nilmap
 |map i b hm hb=>exact .map i b (by rw [hmu];exact hm) (by rw [hS];exact hb)
 |fn f xs ys as bs h1 h2 hx hy ihx ihy=>exact .fn f xs ys as bs h1 h2 ihx ihy
 |nilfn=>exact .nilfn
 |ifc t v x hx ih=>exact .ifc t v x ih
 |nilifc=>exact .nilifc
 |agg cs as h1 hx ih=>exact .agg cs as h1 ih
 |tup cs as h1 hx ih=>exact .tup cs as h1 ih
 |yld i b hm hb=>exact .yld i b (by rw [hmu];exact hm) (by rw [hS];exact hb)
 |room g sz t n b c hn hm h =>
  obtain ⟨m,h1,h2⟩:=h
  refine .room g sz t n b c hn hm ⟨m,by rw [hS];exact h1,fun e=>?_⟩
  obtain ⟨q1,arr,q2,q3⟩:=h2 e
  exact ⟨by rw [hmu];exact q1,arr,(hmb g b q1).trans q2,q3⟩
theorem entryOk.same {E E':Env} (hmu:E'.mu=E.mu) (hS:E'.S=E.S) (hb:E'.base=E.base) (hR:∀ v x,R E v x→R E' v x)
  (hmb:∀ i b:Nat,E.mu[i]? = some (some b)→E'.w.heap[b]? = E.w.heap[b]?) {i:Nat} {x:ABox} (k:entryOk E i x):entryOk E' i x:=by
 have hmp:∀ es c,mpOk E i es c→mpOk E' i es c:=by
  intro es c ⟨b,ms,h1,h2,h3,h4⟩
  exact ⟨b,ms,by rw [hmu];exact h1,(hmb i b h1).trans h2,h3,fun j hj=>⟨hR _ _ (h4 j hj).1,hR _ _ (h4 j hj).2.1,(h4 j hj).2.2⟩⟩
 cases x with
 |cells cs t =>
  obtain ⟨b,arr,h1,h2,h3,h4⟩:=k
  exact ⟨b,arr,by rw [hmu];exact h1,(hmb i b h1).trans h2,h3,fun j hj=>⟨hR _ _ (h4 j hj).1,(h4 j hj).2⟩⟩
 |row cs t =>
  obtain ⟨b,arr,h1,h2,h3,h4⟩:=k
  exact ⟨b,arr,by rw [hmu];exact h1,(hmb i b h1).trans h2,h3,fun j hj=>⟨hR _ _ (h4 j hj).1,(h4 j hj).2⟩⟩
 |grow n sz t =>
  rcases k with k|⟨b,arr,h1,h2,h3,h4⟩
  ·exact .inl (by rw [hmu];exact k)
  ·exact .inr ⟨b,arr,by rw [hmu];exact h1,by rw [hb];exact h2,(hmb i b h1).trans h3,h4⟩
 |dead=>trivial
 |frz o =>
  cases o with
  |none=>trivial
  |some es =>
   obtain ⟨c,es',hx,q⟩:=k
   exact ⟨c,es',hx,hmp es' c q⟩
 |mpx es c =>
  obtain ⟨es',hx,q⟩:=k
  exact ⟨es',hx,hmp es' c q⟩
 |hole=>trivial
 |siter s pos =>
  obtain ⟨b,ba,h1,h2,h3⟩:=k
  exact ⟨b,ba,by rw [hmu];exact h1,(hmb i b h1).trans h2,h3⟩
 |mp es c =>
  obtain ⟨b,ms,h1,h2,h3,h4⟩:=k
  exact ⟨b,ms,by rw [hmu];exact h1,(hmb i b h1).trans h2,h3,fun j hj=>⟨hR _ _ (h4 j hj).1,hR _ _ (h4 j hj).2.1,(h4 j hj).2.2⟩⟩
 |iter m since seen last =>
  obtain ⟨b,h1,h2⟩:=k
  refine ⟨b,by rw [hmu];exact h1,?_⟩
  cases m with
  |none=>exact (hmb i b h1).trans h2
  |some q =>
   obtain ⟨c,k1,k2,k3⟩:=h2
   exact ⟨c,by rw [hmu];exact k1,by rw [hS];exact k2,(hmb i b h1).trans k3⟩
 |loop fr N ps asg body st pend tag =>
  obtain ⟨b,r,h1,h2,h3⟩:=k
  exact ⟨b,r,by rw [hmu];exact h1,(hmb i b h1).trans h2,h3.1,h3.2.1,h3.2.2.1,h3.2.2.2.1,h3.2.2.2.2.1,h3.2.2.2.2.2.1,fun t=>hR _ _ (h3.2.2.2.2.2.2 t)⟩
theorem env_shut (hE:Wf G E) {r:Nat} {o o':Obj} (hf:E.free r) (ho:E.w.heap[r]? = some o) (hc:o.isCells=false) :
  Wf G { E with w:=E.w.putObj r o' }∧(∀ v x,R E v x→R { E with w:=E.w.putObj r o' } v x)∧∀ E0,Wf G E0→Ext E0 E→E0.w.heap.size≤r→Ext E0 { E with w:=E.w.putObj r o' }:=by
 have hother:∀ b,b≠r→(E.w.putObj r o').heap[b]? = E.w.heap[b]?:=fun b hb=>World.putObj_heap_other hb
 have hmb:∀ i b:Nat,E.mu[i]? = some (some b)→(E.w.putObj r o').heap[b]? = E.w.heap[b]?:=fun i b h=>hother b (fun e=>hf i (e▸h))
 have hcell:∀ b o,(E.w.cell? ⟨b,o,none⟩).isSome=true→b≠r:=by
  rintro b o2 h rfl
  simp only [World.cell?,ho] at h
  cases o<;>simp_all [Obj.isCells]
 have hIm:∀ b o2,E.Im b o2→Env.Im { E with w:=E.w.putObj r o' } b o2:=by
  intro b o2 ⟨h1,h2⟩
  exact ⟨by simpa using h1,h2⟩
 have hR:∀ v x,R E v x→R { E with w:=E.w.putObj r o' } v x:=fun v x k =>
  R.same (E:=E) (E':={ E with w:=E.w.putObj r o' }) rfl (by simp) rfl rfl (fun b o2 hi hs=>⟨hIm b o2 hi,cell_same (hother b (hcell b o2 hs)) _ _⟩) hmb k
 refine ⟨⟨hE.len,hE.inj,fun i b h=>by simpa using hE.lt i b h,by simpa using hE.base,hE.im,fun i x h=>entryOk.same (E:=E) (E':={ E with w:=E.w.putObj r o' }) rfl rfl rfl hR hmb (hE.entry i x h),fun g v h=>⟨hR _ _ (hE.glob g v h).r,(hE.glob g v h).free,by
  obtain ⟨arr,t,m,k1,k2⟩:=(hE.glob g v h).obj
  refine ⟨arr,t,m,(hother g fun e=>?_).trans k1,k2⟩
  rw [e,ho] at k1
  injection k1 with k1
  rw [k1] at hc
  simp [Obj.isCells] at hc⟩⟩,hR,fun E0 hE0 h0 hr=>?_⟩
 refine ⟨h0.base,h0.im0,h0.act,by simpa using h0.size,h0.os,h0.tape,h0.output,h0.len,fun b hb hfb=>?_,h0.box,fun i n sz t hi=>?_,fun i b o hS hm=>⟨(h0.frz i b o hS hm).1,(hmb i b ((h0.box i _ hS rfl).1.trans hm)).trans (h0.frz i b o hS hm).2⟩,fun i cs t hS hi=>by
  obtain ⟨⟨cs0,t0,k1⟩,k2⟩:=h0.row i cs t hS hi
  exact ⟨⟨cs0,t0,k1⟩,fun b hb=>(k2 b hb).trans (.same (hmb i b ((h0.box i _ k1 rfl).1.trans hb)))⟩⟩
 ·obtain ⟨f1,e1⟩:=h0.free b hb hfb
  exact ⟨f1,e1.trans (.inl (hother b (by omega)))⟩
 ·obtain ⟨n',h1,h2,h3,h4⟩:=h0.grow i n sz t hi
  refine ⟨n',h1,h2,fun e=>⟨(h3 e).1,fun b hb=>?_⟩,fun b hb=>?_⟩
  ·rw [hmb i b ((h3 e).1.trans hb)];exact (h3 e).2 b hb
  ·obtain ⟨k1,k2⟩:=h4 b hb
   have:=hE0.lt i b hb
   exact ⟨fun o2 h=>(cell_same (hother b (by omega)) _ _).trans (k1 o2 h),k2⟩
theorem alloc_lt (w:World) (o:Obj) (b:Nat) (h:b<w.heap.size):(w.alloc o).heap[b]? = w.heap[b]?:=by
 show (w.heap.push o)[b]? = _
 rw [Array.getElem?_push_lt h,Array.getElem?_eq_getElem h]
theorem alloc_at (w:World) (o:Obj):(w.alloc o).heap[w.heap.size]? = some o:=by
 show (w.heap.push o)[_]? = _
 rw [Array.getElem?_push_size]
def Env.acts (E:Env) (n:Nat):Env:={ E with act:=n }
theorem R.acts {E:Env} (n:Nat) {v:AVal} {x:Value} (h:R E v x):R (E.acts n) v x :=
 R.same (E:=E) (E':=E.acts n) rfl (Nat.le_refl _) rfl rfl (fun b o hi _=>⟨hi,rfl⟩) (fun _ _ _=>rfl) h
theorem GL.acts {E:Env} {g:Nat} {v:AVal} (h:GL E g v) (n:Nat):GL (E.acts n) g v:=⟨h.r.acts n,h.free,h.obj⟩
theorem Wf.acts {E:Env} (n:Nat) (h:Wf G E):Wf G (E.acts n) :=
 ⟨h.len,h.inj,h.lt,h.base,h.im,fun i x k=>entryOk.same (E:=E) (E':=E.acts n) rfl rfl rfl (fun _ _ k=>k.acts n) (fun _ _ _=>rfl) (h.entry i x k),fun g v k=>(h.glob g v k).acts n⟩
theorem leaves_marks {P:Program} {F:Fence} {n:Nat} {fn:Func} {tmps:Array Value} {E0:Env} (hE0:Wf G E0):∀ (rs:List Nat) (E:Env),Wf G E→Ext E0 E→rs.Nodup →
  (∀ r∈rs,E0.w.heap.size≤r∧E.free r∧E.w.heap[r]? = some (.deferred (some [])))→∀ (K:Ending→World→Prop),
  (∀ E',Wf G E'→Ext E0 E'→E'.S=E.S→(∀ v x,R E v x→R E' v x)→∃ v,(results fn tmps).run P E'.w = .ok v E'.w∧K (.returned v) E'.w) →
  LeavesInM F n P fn tmps K (rs.map markOf) .returning E.w:=by
 intro rs
 induction rs with
 |nil=>intro E hE hx _ _ K hk;exact hk E hE hx rfl (fun _ _ h=>h)
 |cons r rs ih =>
  intro E hE hx hn hr K hk
  obtain ⟨r1,r2,r3⟩:=hr r (List.mem_cons_self ..)
  obtain ⟨k1,k2,k3⟩:=env_shut hE (o':=.deferred none) r2 r3 rfl
  rw [List.nodup_cons] at hn
  refine ⟨by simp,.inl ⟨r,_,rfl,run_takeDeferred r3,?_⟩⟩
  refine ih _ k1 (k3 E0 hE0 hx r1) hn.2 (fun s hs=>?_) K (fun E' h1 h2 h3 h4=>hk E' h1 h2 h3 fun v x h=>h4 v x (k2 v x h))
  obtain ⟨s1,s2,s3⟩:=hr s (List.mem_cons_of_mem _ hs)
  exact ⟨s1,s2,(World.putObj_heap_other (fun e=>hn.1 (by rw [← e];exact hs))).trans s3⟩
end
end Go.Am
end
section
namespace Go.Am
open Go
def aNext (it:AVal) (S:St) (K:AVal→St→Prop):Prop :=
 match it with
 |.ptr k 0=>match S[k]? with
  |some (.iter none _ _ _)=>K (.tup [.bool false]) S
  |some (.iter (some mi) since seen last)=>match S[mi]? with
   |some (.mp es clock)=>(seen=[]∨es=[]∨∃ e∈es,e.2.2<last) ∧
     ((∀ e∈es,e.2.2 ∉ seen→since≤e.2.2)→K (.tup [.bool false]) S) ∧
     ∀ e∈es,e.2.2 ∉ seen→K (.tup [.bool true,e.1,e.2.1]) (S.set k (.iter (some mi) since (seen++[e.2.2]) clock))
   |_=>False
  |_=>False
 |_=>False
section
variable {P:Program} {G:Nat→Option AVal} {E:Env}
theorem grownBy_drew (w:World) (o:Option Nat):w.grownBy w.drew o:=⟨rfl,rfl,rfl,Nat.le_refl _,fun _ _ _=>rfl⟩
theorem run_next_any (w:World) (r bm since clock last:Nat) (seen:Array Nat) (es:Array MapEntry) (ty:TypeId)
  (hr:w.heap[r]? = some (.mapIter (some bm) since seen last)) (hb:w.heap[bm]? = some (.map es clock)) (hok:seen = #[]∨es = #[]∨∃ e∈es.toList,e.born<last) :
  ((∀ e∈es.toList,e.born ∉ seen.toList→since≤e.born)∧∃ w1:World,(w1=w∨w1=w.drew)∧(Instr.next (.pointer (some ⟨r,0,none⟩)) false ty).run P w = .ok (.tuple #[.bool false]) w1) ∨
  ∃ (j:Nat) (h:j<es.size),es[j].born ∉ seen.toList∧∃ w1:World,(w1=w∨w1=w.drew) ∧
   (Instr.next (.pointer (some ⟨r,0,none⟩)) false ty).run P w = .ok (.tuple #[.bool true,es[j].key,es[j].val]) (w1.putObj r (.mapIter (some bm) since (seen.push es[j].born) clock)):=by
 have htest:(!seen.isEmpty && !es.isEmpty&&es.all (fun e=>decide (e.born ≥ last)))=false:=by
  rcases hok with rfl|rfl|⟨e,he,hl⟩
  ·simp
  ·simp
  ·have:es.all (fun e=>decide (e.born ≥ last))=false:=by
    rw [← Bool.not_eq_true,Array.all_eq_true']
    intro h
    have:=h e (Array.mem_toList_iff.1 he)
    simp at this
    omega
   rw [this];simp
 simp only [Instr.next,getObj,Sem.run_bind,Sem.run,hr,hb,Result.andThen,htest,Bool.false_eq_true,if_false]
 generalize hL:Array.filter (fun e => !seen.contains e.born) es=L
 have hmem:∀ e∈L.toList,e∈es.toList∧e.born ∉ seen.toList:=by
  intro e he
  rw [← hL] at he
  simp at he
  exact ⟨by simpa using he.1,by simpa using he.2⟩
 have hmem2:∀ e∈es.toList,e.born ∉ seen.toList→e∈L.toList:=by
  intro e he hn
  rw [← hL]
  simp
  exact ⟨by simpa using he,by simpa using hn⟩
 generalize hc:(if (L.filter (fun x=>decide (x.born<since))).isEmpty=true then #[none] else #[])++(L.filter (fun x=>decide (x.born<since))++L.filter (fun x=>decide (x.born ≥ since))).map some=cand
 have hpos:0<cand.size:=by
  rw [← hc]
  by_cases h:(L.filter (fun x=>decide (x.born<since))).isEmpty=true
  ·simp [h];omega
  ·have h2:(L.filter (fun x=>decide (x.born<since))).size≠0:=by
    intro e;exact h (by simpa [Array.isEmpty] using e)
   simp only [h,if_false,Array.size_append,Array.size_map]
   simp only [Bool.false_eq_true,if_false,Array.size_empty]
   omega
 have hch:∃ (j:Nat) (w1:World),j<cand.size∧(w1=w∨w1=w.drew)∧(choose (Question.mapNext cand.size)).run P w = .ok j w1:=by
  by_cases hf:cand.size≤1
  ·exact ⟨0,w,by omega,Or.inl rfl,by simp [choose,Sem.run,Question.forced,hf]⟩
  ·exact ⟨_,w.drew,Nat.mod_lt _ (by omega),Or.inr rfl,by
    simp only [choose,Sem.run,Question.forced,decide_eq_true_eq,hf,if_false,Question.cut]
    rfl⟩
 obtain ⟨j,w1,hj,hal,hrun⟩:=hch
 have hr1:w1.heap[r]? = some (.mapIter (some bm) since seen last):=by rcases hal with rfl|rfl<;>exact hr
 simp only [hrun,Array.getElem?_eq_getElem hj]
 have hin:cand[j]∈cand.toList:=by simp
 cases hcj:cand[j] with
 |none =>
  left
  refine ⟨fun e he hn=>?_,w1,hal,by simp [Sem.run]⟩
  rw [hcj,← hc] at hin
  have:(L.filter (fun x=>decide (x.born<since))).isEmpty=true:=by
   by_cases h:(L.filter (fun x=>decide (x.born<since))).isEmpty=true
   ·exact h
   ·simp [h] at hin
  have h2:L.filter (fun x=>decide (x.born<since)) = #[]:=by simpa using this
  rw [Array.filter_eq_empty_iff] at h2
  have:=h2 e (Array.mem_toList_iff.1 (hmem2 e he hn))
  simp at this
  omega
 |some e =>
  right
  rw [hcj,← hc] at hin
  have heL:e∈L.toList:=by
   rw [Array.mem_toList_iff,Array.mem_append] at hin
   rcases hin with h|h
   ·split at h<;>simp at h
   ·simp only [Array.mem_map,Array.mem_append,Array.mem_filter] at h
    obtain ⟨e',h,he⟩:=h
    injection he with he
    subst he
    rcases h with h|h<;>exact Array.mem_toList_iff.2 h.1
  obtain ⟨h1,h2⟩:=hmem e heL
  obtain ⟨i,hi,rfl⟩:=List.getElem_of_mem h1
  refine ⟨i,by simpa using hi,by simpa using h2,w1,hal,?_⟩
  simp only [Array.getElem_toList,Sem.run_bind,run_setObj_at hr1,Result.andThen]
  rfl
theorem next_ok (hE:Wf G E) {it:AVal} {x:Value} (hx:R E it x) {K:AVal→St→Prop} (h:aNext it E.S K) (ty:TypeId) :
  ∃ v y E',(Instr.next x false ty).run P E.w = .ok y E'.w∧Ext E E'∧Wf G E'∧R E' v y∧K v E'.S:=by
 unfold aNext at h
 split at h
 ·next k =>
  split at h
  ·next since seen last hk =>
   cases hx with
   |ptr _ _ b hm hb =>
    obtain ⟨b',h1,h2⟩:=hE.entry k _ hk
    obtain rfl:b'=b:=by rw [hm] at h1;injection h1 with h1;injection h1 with h1;exact h1.symm
    exact ⟨_,.tuple #[.bool false],E,by simp [Instr.next,getObj,Sem.run,h2,Result.andThen],Ext.refl E,hE,.tup _ _ rfl (fun j hj=>by
     simp at hj;subst hj;exact .bool _),h⟩
  ·next mi since seen last hk =>
   split at h
   ·next es clock hmi =>
    obtain ⟨hok,hno,hyes⟩:=h
    cases hx with
    |ptr _ _ b hm hb =>
     obtain ⟨b',h1,c,hc1,hc2,h2⟩:=hE.entry k _ hk
     obtain rfl:b'=b:=by rw [hm] at h1;injection h1 with h1;injection h1 with h1;exact h1.symm
     obtain ⟨c',ms,m1,m2,m3,m4⟩:=hE.entry mi _ hmi
     obtain rfl:c'=c:=by rw [hc1] at m1;injection m1 with m1;injection m1 with m1;exact m1.symm
     have born:∀ j (h:j<es.length),(ms.getD j default).born=es[j].2.2:=fun j hj=>(m4 j hj).2.2
     have bornL:∀ j (h:j<ms.size),ms[j].born=(es[j]'(by omega)).2.2:=fun j hj=>by
      rw [← born j (by omega)];simp [Array.getD,hj]
     rcases run_next_any (P:=P) E.w b' c' since clock last seen.toArray ms ty h2 m2 (by
      rcases hok with h|h|⟨e,he,hl⟩
      ·exact .inl (by rw [h])
      ·right;left;subst h;exact Array.eq_empty_of_size_eq_zero m3
      ·right;right
       obtain ⟨j,hj,rfl⟩:=List.getElem_of_mem he
       exact ⟨ms[j]'(by omega),by simp,by rw [bornL j (by omega)];exact hl⟩) with ⟨ha,w1,hw,hrun⟩|⟨j,hj,hn,w1,hw,hrun⟩
     ·have hg:E.w.grownBy w1 none:=by rcases hw with rfl|rfl;exact ⟨rfl,rfl,rfl,Nat.le_refl _,fun _ _ _=>rfl⟩;exact grownBy_drew _ _
      obtain ⟨k1,k2⟩:=env_grown hE hg
      refine ⟨_,_,{ E with w:=w1 },hrun,k1,k2,.tup _ _ rfl (fun j hj=>by simp at hj;subst hj;exact .bool _),hno fun e he hne=>?_⟩
      obtain ⟨j,hj,rfl⟩:=List.getElem_of_mem he
      have:=ha (ms[j]'(by omega)) (by simp) (by rw [bornL j (by omega)];simpa using hne)
      rwa [bornL j (by omega)] at this
     ·have hw1:w1.heap=E.w.heap:=by rcases hw with rfl|rfl<;>rfl
      have hlt:b'<E.w.heap.size:=heap_lt h2
      have hg:E.w.grownBy (w1.putObj b' (.mapIter (some c') since (seen.toArray.push ms[j].born) clock)) (some b'):=by
       rcases hw with rfl|rfl
       ·exact grownBy_putObj' _ _ _
       ·exact ⟨rfl,rfl,rfl,by show E.w.heap.size≤(E.w.heap.setIfInBounds b' _).size;rw [Array.size_setIfInBounds];exact Nat.le_refl _,fun k _ hk=>World.putObj_heap_other (fun e=>hk (by rw [e]))⟩
      obtain ⟨k1,k2⟩:=env_set hE hm hg _ (.iter (some mi) since (seen++[ms[j].born]) clock) hk rfl rfl (fun hext=>by
       obtain ⟨x,hx,hxg⟩:=hc2
       obtain ⟨e1,y,hy,hyg⟩:=hext.box mi x hx hxg
       refine ⟨b',hm,c',hc1,⟨y,hy,hyg⟩,?_⟩
       have:(w1.putObj b' (.mapIter (some c') since (seen.toArray.push ms[j].born) clock)).heap[b']? = some (.mapIter (some c') since (seen.toArray.push ms[j].born) clock) :=
        World.putObj_heap_same (by rw [hw1];exact hlt)
       rw [this]
       simp)
      have hj':j<es.length:=by omega
      refine ⟨.tup [.bool true,es[j].1,es[j].2.1],_,_,hrun,k1,k2,.tup _ _ rfl (fun q hq=>?_),?_⟩
      ·simp only [List.length_cons,List.length_nil] at hq
       have kv:=m4 j hj'
       have e:ms.getD j default=ms[j]:=by simp [Array.getD,hj]
       rw [e] at kv
       match q,hq with
       |0,_=>exact .bool _
       |1,_=>exact kv.1.ext hE k1
       |2,_=>exact kv.2.1.ext hE k1
      ·have:=hyes es[j] (List.getElem_mem hj') (by rw [← bornL j hj];simpa using hn)
       rw [← bornL j hj] at this
       exact this
   ·exact h.elim
  ·exact h.elim
 ·exact h.elim
end
end Go.Am
end
