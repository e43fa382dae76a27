/- A range over a map whose entries are told, by hand: stored rules; a map written in a drawn region. -/
import Derived.Test.YteemcehaekffeaaGreatAmGo
import Derived.Test.YteemcehaekffeaaGreatAmWalkE
set_option linter.unusedVariables false
set_option linter.unusedSimpArgs false
namespace Go.Am
open Go
noncomputable section
open Classical
section
variable {C:Cx} {N:Nat} {F:Prop} {d:Option Nat} {gd:Option (Option Nat × Bool)} {rest:List LO} {Q:Fr→St→Prop} {fr fr':Fr} {S S':St}
theorem aStep_makeMap1 (C:Cx) (g:Nat→AVal) (S:St) {t:TypeId}:aStep C (.makeMap t none) g S=some ⟨True,.map S.length,S++[.mp [] 0]⟩:=rfl
theorem cells_map (i:Nat):(AVal.map i).cells=[.map i]:=rfl
theorem cells_nilmap:AVal.nilmap.cells=[.nilmap]:=rfl
theorem okc_map (i:Nat):(AVal.map i).okc↔True:=okc_one rfl rfl
theorem okc_nilmap:AVal.nilmap.okc↔True:=okc_one rfl rfl
theorem put_1 (a b:AVal):putCells [a] 0 [b]=[b]:=rfl
theorem one_app (a b:List AVal):(∀ c∈a++b,c.one=true)↔(∀ c∈a,c.one=true)∧∀ c∈b,c.one=true:=List.forall_mem_append
theorem ff_ (p:Nat→TypeId→Prop):(∀ n e,False→p n e)↔True:=⟨fun _=>True.intro,fun _ _ _ h=>h.elim⟩
attribute [go_sem] one_app ff_ one_sl one_int one_bool one_map one_ptr one_str aStep_makeMap1 cells_map cells_nilmap okc_map okc_nilmap put_1
theorem aStep_range1 (C:Cx) (g:Nat→AVal) (S:St) {t:TypeId} {x:Operand}:aStep C (.range t x) g S=aRange C S t (aEval C g x):=rfl
theorem aStep_entry1 (C:Cx) (g:Nat→AVal) (S:St) {x:Operand}:aStep C (.entry x) g S=aEntry S (aEval C g x):=rfl
theorem zRg {t kt et:TypeId} {i:TI} {x:Operand} {b c:Nat} {es:Ents} (f:F) (k:aL C none rest Q fr' (S++[.iter (some b) c [] c])) (hg:F→wantL gd fr=some true:=by first|(intro f;exact ev f)|fail) (hT:F→C.T t=some i:=by first|(intro f;exact ev f)|fail) (hd:i.d = .map kt et:=by first|rfl|fail)
  (hm:F→aEval C fr.get x = .map b:=by first|(intro f;exact ev f)|fail) (hS:F→S[b]? = some (.mp es c):=by first|(intro f;exact ev f)|fail) (hf:fr.put d (.ptr S.length 0)=fr':=by first|(exact ef)|fail):aL C none (⟨d,.range t x,gd⟩::rest) Q fr S :=
 aL_step True.intro (hg f) (sd:=True) (r:=.ptr S.length 0) (S':=S++[.iter (some b) c [] c]) (by rw [aStep_range1,hm f];unfold aRange;simp only [hT f,hd,hS f]) hf k True.intro
theorem zEn {x:Operand} {k mi b since last c:Nat} {seen:List Nat} {es:Ents} {e:AVal × AVal × Nat} (f:F) (kk:aL C none rest Q fr' S) (hg:F→wantL gd fr=some true:=by first|(intro f;exact ev f)|fail) (hm:F→aEval C fr.get x = .ptr k 0:=by first|(intro f;exact ev f)|fail)
  (hk:F→S[k]? = some (.iter (some mi) since (seen++[b]) last):=by first|(intro f;exact ev f)|fail) (hS:F→S[mi]? = some (.mp es c):=by first|(intro f;exact ev f)|fail) (he:F→(es.find? fun e=>e.2.2==b)=some e:=by first|(intro f;exact ev f)|fail) (hc:F→c=last:=by first|(intro f;exact cs f)|fail)
  (hf:fr.put d (.tup [e.1,e.2.1])=fr':=by first|(exact ef)|fail):aL C none (⟨d,.entry x,gd⟩::rest) Q fr S :=
 aL_step True.intro (hg f) (sd:=c=last) (r:=.tup [e.1,e.2.1]) (S':=S) (by rw [aStep_entry1,hm f];unfold aEntry;simp only [hk f,hS f,List.getLast?_append,List.getLast?_singleton,Option.some_or,he f]) hf kk (hc f)
end
theorem aC_nxt {C:Cx} {N:Nat} {d:Option Nat} {it:Operand} {ops:List LO} {Q:Post} {fr:Fr} {S:St} {k mi since last clock:Nat} {seen:List Nat} {es:Ents} (hi:aEval C fr.get it = .ptr k 0) (hS:S[k]? = some (.iter (some mi) since seen last)) (hm:S[mi]? = some (.mp es clock))
  (hd:∀ j,d=some j→j<N) (h0:seen=[]∨es=[]∨∃ e∈es,e.2.2<last) (kend:(∀ e∈es,e.2.2 ∉ seen→since≤e.2.2)→aL C none ops (Q .normal) (fr.put d (.tup [.bool false])) S)
  (knext:∀ e∈es,e.2.2 ∉ seen→aL C none ops (Q .normal) (fr.put d (.tup [.bool true,e.1,e.2.1])) (S.set k (.iter (some mi) since (seen++[e.2.2]) clock))):aC C N (.nxt d it ops) Q fr S:=by
 simp only [aC,aNext,hi,hS,hm]
 exact ⟨h0,fun h=>⟨hd,kend h⟩,fun e he hn=>⟨hd,knext e he hn⟩⟩
section
variable {C:Cx} {F:Prop} {U:UL} {B:List (Option Nat × Nat)} {d:Option Nat} {gd:Option (Option Nat × Bool)} {rest:List LO} {Q:Fr→St→Prop} {fr fr':Fr} {S S':St}
theorem bU {t kt et:TypeId} {i:TI} {m k v:Operand} {b c:Nat} {es:Ents} {kv vv:AVal} (f:F) (hs:keysOk C kt kv es) (kk:aL C (some (U,B,[])) rest Q fr' S') (hg:F→wantL gd fr=some true:=by first|(intro f;exact ev f)|fail) (hT:F→C.T t=some i:=by first|(intro f;exact ev f)|fail)
  (hd:i.d = .map kt et:=by first|rfl|fail) (hm:F→aEval C fr.get m = .map b:=by first|(intro f;exact ev f)|fail) (hk:F→aEval C fr.get k=kv:=by first|(intro f;exact ev f)|fail) (hv:F→aEval C fr.get v=vv:=by first|(intro f;exact ev f)|fail) (hS:F→S[b]? = some (.mp es c):=by first|(intro f;exact ev f)|fail)
  (hr:F→S.set b (setK kv vv es c)=S':=by first|(intro f;exact ev f)|fail) (hf:fr.put d (.raw undef)=fr':=by first|(exact ef)|fail) (hB:F→∀ e∈B,(e.1,d)∈U→S'[e.2]? = S[e.2]?:=by first|(intro f;simp;done)|(intro f;exact cs f)|fail) :
  aL C (some (U,B,[])) (⟨d,.mapUpdate t m k v,gd⟩::rest) Q fr S:=by
 have hstep:aStep C (.mapUpdate t m k v) fr.get S=some ⟨keysOk C kt kv es,.raw undef,S'⟩:=by
  have h1:=hT f;have h2:=hm f;have h3:=hk f;have h4:=hv f;have h5:=hS f;have h6:=hr f
  subst h3 h4 h6
  show aMapUpdate C S t (aEval C fr.get m) (aEval C fr.get k) (aEval C fr.get v)=_
  rw [h2]
  unfold aMapUpdate
  simp only [h1,hd,h5]
 exact aLB_write True.intro rfl rfl (hg f) hstep hf (hB f) kk hs
end
section
variable {C:Cx} {p:FuncId→Bool} {q:Nat→Option UL} {F:Prop} {d:Option Nat} {gd:Option (Option Nat × Bool)} {x:Operand} {xs:Array Operand} {ts:Array TypeId} {rest:List LO} {Q:Fr→St→Prop} {fr fr':Fr} {S S':St} {args:List AVal} {r:AVal} {i:Nat}
theorem zY (f:F) (hc:AYield C i args S r S') (k:aL (C.wp p q) none rest Q fr' S') (hg:F→wantL gd fr=some true:=by first|(intro f;exact ev f)|fail) (hx:F→aEval (C.wp p q) fr.get x = .yld i:=by first|(intro f;exact ev f)|fail)
  (ha:F→args=xs.toList.map (aEval (C.wp p q) fr.get):=by first|(intro f;exact Eq.symm (ev f))|fail) (hf:fr.put d r=fr':=by first|(exact ef)|fail):aL (C.wp p q) none (⟨d,.call ⟨.value x,xs,ts⟩,gd⟩::rest) Q fr S :=
 aL_yield hc (hg f) (hx f) rfl (ha f) hf k
theorem zX {t kt et:TypeId} {ti tj:TI} {m k:Operand} {ok:Bool} {b:Nat} {kv:AVal} {es:List (AVal × AVal)} (f:F) (hs:keysOk C kt kv (tagE es)∧oneX kv es=true) (kk:aL C none rest Q fr' S) (hg:F→wantL gd fr=some true:=by first|(intro f;exact ev f)|fail) (hT:F→C.T t=some ti:=by first|(intro f;exact ev f)|fail)
  (hd:ti.d = .map kt et:=by first|rfl|fail) (hj:F→C.T et=some tj:=by first|(intro f;exact ev f)|fail) (hm:F→aEval C fr.get m = .map b:=by first|(intro f;exact ev f)|fail) (hk:F→aEval C fr.get k=kv:=by first|(intro f;exact ev f)|fail)
  (hS:F→boxX S[b]? = some es:=by first|(intro f;exact ev f)|fail) (hr:F→(if ok=true then .tup [lookV kv (tagE es) (ofCells tj tj.zero),.bool (findK kv (tagE es)).isSome] else lookV kv (tagE es) (ofCells tj tj.zero))=r:=by first|(intro f;exact ev f)|fail)
  (hf:fr.put d r=fr':=by first|(exact ef)|fail):aL C none (⟨d,.lookup t m k ok,gd⟩::rest) Q fr S:=by
 have h:=aLookup_X (ok:=ok) (k:=kv) (hT f) hd (hj f) (hS f)
 rw [hr f] at h
 exact aL_lookX h (hg f) (hm f) (hk f) hf kk hs
end
theorem boxX_mpx (es:List (AVal × AVal)) (c:Nat):boxX (some (.mpx es c))=some es:=rfl
attribute [go_sem] boxX_mpx
def rEnd (L0 Ld:ABox) (i:Nat) (r:AVal) (S':St):Exit→St→Prop
 |.normal,T=>r = .bool true∧T.set i L0=S'
 |.ret,T=>r = .bool false∧T.set i Ld=S'
 |_,_=>False
theorem rEnd_n {L0 Ld:ABox} {i:Nat} {r:AVal} {S' T:St} (h:r = .bool true) (k:T.set i L0=S'):rEnd L0 Ld i r S' .normal T:=⟨h,k⟩
theorem rEnd_r {L0 Ld:ABox} {i:Nat} {r:AVal} {S' T:St} (h:r = .bool false) (k:T.set i Ld=S'):rEnd L0 Ld i r S' .ret T:=⟨h,k⟩
theorem rdY {C:Cx} [CxG C] {N:Nat} {q:Nat→Option UL} {fr:Fr} {ps:List Nat} {asg body:Code} {tag i:Nat} {args:List AVal} {S S':St} {r:AVal} {la lb:LC} {L0 Ld:ABox}
  (hL0:L0 = .loop fr N ps asg body .ready none tag) (hLd:Ld = .loop fr N ps asg body .done (some .ret) tag) (hS:S[i]? = some L0) (hl:ps.length=args.length) (hps:(ps.all fun k=>Nat.blt k N)=true) (hna:noRF asg=true) (hnb:noRF body=true)
  (hca:codeOk (C.wp C.pc q) N asg=true) (hcb:codeOk (C.wp C.pc q) N body=true) (hla:LEq (lite asg) la) (hlb:LEq (lite body) lb)
  (h:∀ Lb,aC (C.wp C.pc q) N la (fun e fr1 T1=>e = .normal∧T1[i]? = some L0∧aC (C.wp C.pc q) N lb (fun e _ T2=>T2[i]? = some Lb∧rEnd L0 Ld i r S' e T2) fr1 (T1.set i Lb)) (putAll fr ps args) S):AYield C i args S r S':=by
 have hla:lite asg=la:=hla
 have hlb:lite body=lb:=hlb
 subst hL0 hLd
 have hC':(C.wp C.pc q).Ok:=CxG.ok.wp C.pc q
 refine ayield_ok hS hl (fun k hk=>blt_iff.1 (List.all_eq_true.1 hps k hk)) hna hnb (p:=C.pc) (q:=q) ((aC_sound hC' asg _ _ _ hca (by rw [hla];exact h (.loop fr N ps asg body .busy none tag))).mono ?_)
 rintro e fr1 T1 ⟨rfl,h0,h1⟩
 refine ⟨rfl,_,_,_,_,_,_,_,h0,(aC_sound hC' body _ _ _ hcb (by rw [hlb];exact h1)).mono ?_⟩
 rintro e fr2 T2 ⟨h2,h3⟩
 refine ⟨_,_,_,_,_,_,_,_,h2,?_⟩
 cases e with
 |normal=>obtain ⟨rfl,rfl⟩:=h3;rfl
 |ret=>obtain ⟨rfl,rfl⟩:=h3;rfl
 |_=>exact h3.elim
theorem hM_ {C:Cx} {F:Prop} {U:UL} {B:List (Option Nat × Nat)} {H:Holes} {d:Option Nat} {gd:Option (Option Nat × Bool)} {rest:List LO} {Q:Fr→St→Prop} {fr fr':Fr} {S S':St} {t:TypeId} (j:Nat) (f:F) (k:aL C (some (U,B,H)) rest Q fr' S')
  (hg:F→wantL gd fr=some true:=by first|(intro f;exact ev f)|fail) (hs:F→S[j]? = some .hole:=by first|(intro f;exact ev f)|fail) (hS:F→S.set j (.mp [] 0)=S':=by first|(intro f;exact ev f)|fail) (hf:fr.put d (.map j)=fr':=by first|(exact ef)|fail)
  (hH:(j,.mp [] 0)∈H:=by first|(simp)|fail) (hk:F→∀ e∈B,(e.1,d)∈U→S'[e.2]? = S[e.2]?:=by first|(intro f;simp;done)|(intro f;exact cs f)|fail):aL C (some (U,B,H)) (⟨d,.makeMap t none,gd⟩::rest) Q fr S:=by
 have hg:=hg f;have hs:=hs f;have hS:=hS f;have hk:=hk f
 simp only [aL,hg,if_true,aOpK]
 subst hf hS
 exact .inr (.inl (.inr (.inr (.inr ⟨j,t,rfl,hs,⟨(fun b hb=>by cases hb),hk,fun _=>⟨j,_,hH,(fun e=>by cases e),hs,rfl,fun U hU=>.fillM j t rfl hU⟩,(fun h=>by cases h),fun _ h=>by cases h⟩,k⟩))))
theorem nS {C:Cx} {N:Nat} {l:LC} {Q:Post} {fr fr':Fr} {S S':St} {F:Prop} (f:F) (k:aC C N l Q fr' S') (h:F→S=S':=by first|(intro f;exact ev f)|fail) (hf:VEq fr fr':=by first|(dsimp only [putAll];exact .mk)|exact .mk|fail):aC C N l Q fr S:=by
 cases hf
 rw [h f]
 exact k
theorem zQ {C:Cx} {F:Prop} {d:Option Nat} {gd:Option (Option Nat × Bool)} {rest:List LO} {Q:Fr→St→Prop} {fr fr':Fr} {S:St} {t tx e e':TypeId} {i q j:TI} {x v:Operand} {aw:AVal} {sz z n:Nat} {cs:List AVal} (f:F) (kk:aL C none rest Q fr' (S++[.row cs e]))
  (hsd:srcCOk S z aw∧0<n∧n≤maxLen∧n*j.bytes≤140737488355328) (hsrc:srcC S z aw=(n,cs))
  (hg:F→wantL gd fr=some true:=by first|(intro f;exact ev f)|fail) (hT:F→C.T t=some i:=by first|(intro f;exact ev f)|fail) (hd:i.d = .slice e:=by first|rfl|fail) (hT2:F→C.T tx=some q:=by first|(intro f;exact ev f)|fail) (hd2:q.d = .slice e':=by first|rfl|fail)
  (hj:F→C.T e=some j:=by first|(intro f;exact ev f)|fail) (hz:j.size=z:=by first|rfl|fail) (hx:F→aEval C fr.get x = .sl sz false [] .full:=by first|(intro f;exact ev f)|fail) (hv:F→aEval C fr.get v=aw:=by first|(intro f;exact ev f)|fail)
  (hf:fr.put d (.ms S.length z n)=fr':=by first|(exact ef)|fail):aL C none (⟨d,.call { callee:=.builtin .append,args := #[x,v],argTypes := #[t,tx] },gd⟩::rest) Q fr S:=by
 subst hz
 exact aL_appR (sd:=srcCOk S j.size aw∧0<n∧n≤maxLen∧n*j.bytes≤140737488355328) (r:=.ms S.length j.size n) (S':=S++[.row cs e]) (hg f) (hx f) (hv f) (by unfold aAppR;simp only [hT f,hT2 f,hd,hd2,hj f,hsrc]) hf hsd kk
theorem oW {C:Cx} [CxG C] {f:FuncId} {l:LC} {n:Nat} {rs:List ResultVar} {q:Nat→Option UL} {args:List AVal} {S S':St} {r:AVal} (h:Fq C f l n rs q) (hb:BodyOk C f (fun _=>false) q)
  (k:aC (C.wp (fun _=>false) q) n l (fun e fr T=>isRet e∧match aRes C fr T rs with|some (sd,v)=>sd∧v=r∧T=S'|none=>False) (frame0 args) S) (hl:Nat.ble args.length n=true:=by first|exact rfl|fail):ACall C f args S r S' :=
 acall_intro CxG.ok h.fn (fun _=>false) q hb (Nat.le_of_ble_eq_true hl) k
end
end Go.Am
