/- The abstract layer, reckoned by the kernel: functions. -/
import Derived.Test.YteemcehaekffeaaGreatAmExec
import Derived.Test.YteemcehaekffeaaGreatAmAny
import Derived.LoopNIn
set_option linter.unusedVariables false
set_option linter.unusedSimpArgs false
namespace Go.Am
open Go
noncomputable section
structure FE where
 body:LC
 N:Nat
 rs:List ResultVar
 q:Nat→Option UL
 plain:Bool
def xRes1 (C:Cx) (fr:Fr) (S:St):ResultVar→Option AVal
 |.tmp t=>some (xget fr t)
 |.cell a t=>bif cLoad C S t (xget fr a) then (aLoad C S t (xget fr a)).map (·.r) else none
def xRess (C:Cx) (fr:Fr) (S:St):List ResultVar→Option (List AVal)
 |[]=>some []
 |r::rs=>match xRes1 C fr S r with
  |some v=>match xRess C fr S rs with
   |some vs=>some (v::vs)
   |none=>none
  |none=>none
def xRes (C:Cx) (fr:Fr) (S:St) (rs:List ResultVar):Option AVal :=
 match xRess C fr S rs with
 |some [v]=>some v
 |some vs=>some (.tup vs)
 |none=>none
theorem xRes1_ok {C:Cx} {fr:Fr} {S:St} {rv:ResultVar} {v:AVal} (h:xRes1 C fr S rv=some v):∃ o,resV C fr S rv=some o∧o.sd∧o.r=v:=by
 cases rv with
 |tmp t =>
  simp only [xRes1,Option.some.injEq] at h
  exact ⟨_,rfl,trivial,by rw [← h,xget_eq]⟩
 |cell a t =>
  simp only [xRes1] at h
  cases hc:cLoad C S t (xget fr a) with
  |false=>rw [hc] at h;cases h
  |true =>
   rw [hc] at h
   simp only [cond_true] at h
   obtain ⟨o,ho,he⟩:=Option.map_eq_some_iff.1 h
   exact ⟨o,by simp only [resV];rw [← xget_eq];exact ho,cLoad_ok hc ho,he⟩
theorem xRess_ok {C:Cx} {fr:Fr} {S:St}:∀ {rs:List ResultVar} {vs:List AVal},xRess C fr S rs=some vs→∃ sd,resVs C fr S rs=some (sd,vs)∧sd:=by
 intro rs
 induction rs with
 |nil=>intro vs h;simp only [xRess,Option.some.injEq] at h;subst h;exact ⟨True,rfl,trivial⟩
 |cons r rs ih =>
  intro vs h
  simp only [xRess] at h
  split at h
  ·next v hv =>
   split at h
   ·next ws hw =>
    injection h with h
    subst h
    obtain ⟨o,h1,h2,h3⟩:=xRes1_ok hv
    obtain ⟨sd,h4,h5⟩:=ih hw
    exact ⟨o.sd∧sd,by simp only [resVs,h1,h4,h3],h2,h5⟩
   ·cases h
  ·cases h
theorem xRes_ok {C:Cx} {fr:Fr} {S:St} {rs:List ResultVar} {v:AVal} (h:xRes C fr S rs=some v):∃ sd,aRes C fr S rs=some (sd,v)∧sd:=by
 unfold xRes at h
 unfold aRes
 split at h
 ·next w hw =>
  obtain ⟨sd,h1,h2⟩:=xRess_ok hw
  injection h with h
  subst h
  exact ⟨sd,by rw [h1],h2⟩
 ·next vs hne hw =>
  obtain ⟨sd,h1,h2⟩:=xRess_ok hw
  injection h with h
  subst h
  refine ⟨sd,?_,h2⟩
  rw [h1]
  match vs,hne with
  |[],_=>rfl
  |[v],hne=>exact (hne v rfl).elim
  |_::_::_,_=>rfl
 ·cases h
def look1B (T:St):AVal→Bool
 |.view b off n cap=>decide (cap≤maxLen)&&match T[b]? with
  |some (.cells bs _)=>decide (off+n≤bs.length)&&bs.all (·.one)
  |_=>false
 |.vrow _ _ _=>false
 |_=>true
def lookB (T:St):AVal→Bool
 |.tup vs=>vs.all (look1B T)
 |v=>look1B T v
theorem look1B_ok {T:St} {v:AVal} (h:look1B T v=true):look1Ok T v:=by
 cases v<;>try trivial
 case view b off n cap =>
  simp only [look1B,Bool.and_eq_true,decide_eq_true_eq] at h
  obtain ⟨h1,h2⟩:=h
  split at h2
  ·next bs t hb =>
   simp only [Bool.and_eq_true,decide_eq_true_eq] at h2
   exact ⟨h1,bs,t,hb,h2.1,fun x hx=>List.all_eq_true.1 h2.2 x hx⟩
  ·cases h2
theorem lookB_ok {T:St} {v:AVal} (h:lookB T v=true):lookOk T v:=by
 cases v with
 |tup vs=>exact fun v hv=>look1B_ok (List.all_eq_true.1 h v hv)
 |view b off n cap=>exact look1B_ok (v:=.view b off n cap) h
 |vrow b off n=>cases h
 |_=>trivial
abbrev Runner:=(Nat→Option UL)→Nat→Nat→LC→Fr→St→Option (XE × Fr × St)
def isFin:XE→Bool
 |.nrm=>true
 |.ret=>true
 |_=>false
def xPl (C:Cx) (tab:FuncId→Option FE) (ext:FuncId→List AVal→Option AVal) (R:Runner) (f:FuncId) (args:List AVal):Option AVal :=
 match ext f args with
 |some r=>some r
 |none=>match tab f with
  |none=>none
  |some e=>bif Nat.ble args.length e.N&&(e.plain&&bels 0 (args.map era)) then
    match R e.q e.N f e.body (frame0 (args.map era)) [] with
    |some (x,fr,T)=>bif isFin x then match xRes C fr T e.rs with
      |some v=>bif lookB T v&&bel 0 (look T v) then some (look T v) else none
      |none=>none
     else none
    |none=>none
   else none
def xCall (C:Cx) (tab:FuncId→Option FE) (ext:FuncId→List AVal→Option AVal) (R:Runner):Fuel:=fun f args S =>
 match xPl C tab ext R f args with
 |some r=>some (r,S)
 |none=>match tab f with
  |none=>none
  |some e=>bif Nat.ble args.length e.N && !C.pc f then
    match R e.q e.N f e.body (frame0 args) S with
     |some (x,fr,T)=>bif isFin x then match xRes C fr T e.rs with
       |some v=>bif bel S.length v&&belS S.length (T.take S.length) then some (v,T.take S.length) else some (v,T)
       |none=>none
      else none
     |none=>none
   else none
def xYield (C:Cx) (tab:FuncId→Option FE) (R:Runner):FuelY:=fun i args S =>
 match S[i]? with
 |some (.loop fr N ps asg body .ready _ tag)=>match tab tag with
  |none=>none
  |some e=>bif Nat.beq ps.length args.length&&ps.all (fun k=>Nat.blt k N)&&noRF asg&&noRF body&&codeOk (C.wp C.pc e.q) N asg&&codeOk (C.wp C.pc e.q) N body then
    match R e.q N tag (lite asg) (putAll fr ps args) S with
    |some (.nrm,fr1,T1)=>match T1[i]? with
     |some (.loop fr0 N0 ps0 asg0 body0 .ready pend0 tag0) =>
      match R e.q N tag (lite body) fr1 (T1.set i (.loop fr0 N0 ps0 asg0 body0 .busy pend0 tag0)) with
      |some (x,_,T2)=>match T2[i]? with
       |some (.loop fr2 N2 ps2 asg2 body2 _ _ tag2)=>roundEnd fr2 N2 ps2 asg2 body2 tag2 i T2 x.ex
       |_=>none
      |none=>none
     |_=>none
    |_=>none
   else none
 |_=>none
def xNext (S:St) (it:AVal):Option (AVal × St) :=
 match it with
 |.ptr k 0=>match S[k]? with
  |some (.iter none _ _ _)=>some (.tup [.bool false],S)
  |some (.iter (some mi) since seen last)=>match S[mi]? with
   |some (.mp es clock) =>
    bif seen.isEmpty||es.isEmpty||es.any fun e=>Nat.blt e.2.2 last then
     match es.filter fun e => !inL seen e.2.2 with
     |[]=>some (.tup [.bool false],S)
     |[e]=>bif Nat.blt e.2.2 since then some (.tup [.bool true,e.1,e.2.1],S.set k (.iter (some mi) since (seen++[e.2.2]) clock)) else none
     |_=>none
    else none
   |_=>none
  |_=>none
 |_=>none
theorem xNext_ok {S S':St} {it v:AVal} (h:xNext S it=some (v,S')) {K:AVal→St→Prop} (hk:K v S'):aNext it S K:=by
 unfold xNext at h
 unfold aNext
 split at h
 ·next k =>
  simp only
  split at h
  ·next hS =>
   simp only [hS]
   injection h with h;injection h with h1 h2
   subst h1 h2;exact hk
  ·next mi since seen last hS =>
   simp only [hS]
   split at h
   ·next es clock hm =>
    simp only [hm]
    cases hb:(seen.isEmpty||es.isEmpty||es.any fun e=>Nat.blt e.2.2 last) with
    |false=>rw [hb] at h;cases h
    |true =>
     rw [hb] at h
     simp only [cond_true] at h
     have hok:seen=[]∨es=[]∨∃ e∈es,e.2.2<last:=by
      simp only [Bool.or_eq_true,List.isEmpty_iff] at hb
      rcases hb with (h|h)|h
      ·exact .inl h
      ·exact .inr (.inl h)
      ·obtain ⟨e,he,hl⟩:=List.any_eq_true.1 h
       exact .inr (.inr ⟨e,he,blt_iff.1 hl⟩)
     have hmem:∀ e∈es,e.2.2 ∉ seen→e∈es.filter fun e => !inL seen e.2.2:=fun e he hn=>List.mem_filter.2 ⟨he,by
      simp only [Bool.not_eq_true']
      cases hx:inL seen e.2.2
      ·rfl
      ·exact absurd (inL_ok hx) hn⟩
     split at h
     ·next hf =>
      rw [hf] at hmem
      injection h with h;injection h with h1 h2
      subst h1 h2
      exact ⟨hok,fun _=>hk,fun e he hn=>by have:=hmem e he hn;cases this⟩
     ·next e hf =>
      rw [hf] at hmem
      cases hl:Nat.blt e.2.2 since with
      |false=>rw [hl] at h;cases h
      |true =>
       rw [hl] at h
       simp only [cond_true] at h
       injection h with h;injection h with h1 h2
       subst h1 h2
       have hin:e∈es.filter fun e => !inL seen e.2.2:=by rw [hf];simp
       refine ⟨hok,fun hall=>?_,fun e' he hn=>?_⟩
       ·have h1:=List.mem_filter.1 hin
        have hns:e.2.2 ∉ seen:=fun hs=>by
         have:inL seen e.2.2=true:=List.any_eq_true.2 ⟨_,hs,by simp⟩
         rw [this] at h1;simp at h1
        have:=hall e h1.1 hns
        have:=blt_iff.1 hl
        omega
       ·have:=hmem e' he hn
        rw [List.mem_singleton] at this
        subst this
        exact hk
     ·cases h
   ·cases h
  ·cases h
 ·cases h
def nodupB:List Nat→Bool
 |[]=>true
 |a::l => !inL l a&&nodupB l
def mapPs (z:ABox):Option (List (AVal × AVal) × Nat) :=
 match z with
 |.mpx ps c=>some (ps,c)
 |.mp es c=>bif nodupB (es.map fun e=>e.2.2)&&es.all (fun e=>Nat.blt e.2.2 c) then some (es.map fun e=>(e.1,e.2.1),c) else none
 |_=>none
def subB (fr F:Fr):Bool:=F.all fun p=>veq (xget fr p.1) p.2
def isBool (b:Bool):AVal→Bool
 |.bool c=>b==c
 |_=>false
def isPtr (k:Nat):AVal→Bool
 |.ptr i 0=>Nat.beq i k
 |_=>false
def dN (d:Option Nat) (N:Nat):Bool:=match d with
 |some k=>Nat.blt k N
 |none=>true
def isCont (nx:Nat):XE→Bool
 |.nrm=>true
 |.ext i=>Nat.beq i nx
 |.ret=>false
def xRound (C:Cx) (X:Fuel) (Y:FuelY) (R:LC→Fr→St→Option (XE × Fr × St)) (d:Option Nat) (ops:List LO) (more it2:Operand) (pd:Option Nat) (aops:List LO) (code:LC) (k:Nat) (Sf:St) (fr0:Fr)
  (e:AVal × AVal):Option (XE × Fr × St) :=
 match xL C X Y ops (xputO fr0 d (.tup [.bool true,e.1,e.2])) Sf with
 |some (fr1,S1)=>bif seq S1 Sf&&(isBool true (aEval C (fun t=>xget fr1 t) more)&&isPtr k (aEval C (fun t=>xget fr1 t) it2)) then
   match xL C X Y aops (xputO fr1 pd (.tup [e.1,e.2])) Sf with
   |some (fr2,S2)=>R code fr2 S2
   |none=>none
  else none
 |none=>none
def xRounds (rd:AVal × AVal→Option (XE × Fr × St)) (nx n:Nat) (Sf:St) (fr0:Fr):List (AVal × AVal)→Option (Option (XE × Fr × St))
 |[]=>some none
 |e::ps=>match rd e with
  |some (x,fr3,S3)=>bif isCont nx x then (bif seq (S3.take n) Sf&&subB fr3 fr0 then xRounds rd nx n Sf fr0 ps else none)
   else match xRounds rd nx n Sf fr0 ps with
    |some none=>some (some (x,fr3,S3))
    |_=>none
  |none=>none
def xLess (rd:AVal × AVal→Option (XE × Fr × St)) (nx:Nat) (fr:Fr):List (AVal × AVal)→Fr
 |[]=>fr
 |e::ps=>match rd e with
  |some (x,fr3,_)=>bif isCont nx x then fr.filter (fun p=>veq p.2 (xget fr p.1)&&veq p.2 (xget fr3 p.1)) else xLess rd nx fr ps
  |none=>fr
def xAny (C:Cx) (X:Fuel) (Y:FuelY) (R:LC→Fr→St→Option (XE × Fr × St)) (q:Nat→Option UL) (N:Nat) (a:LC) (fr:Fr) (S:St):Option (XE × Fr × St) :=
 match a with
 |.seq (.nxt d it ops) (.seq (.cond more .skip (.exit out)) (.block nx (.seq (.reg aid (⟨pd,.entry it2,none⟩::aops)) code))) =>
  bif (q aid).isNone&&(dN d N&&dN pd N) then
   match aEval C (fun t=>xget fr t) it with
   |.ptr k 0=>match S[k]? with
    |some (.iter (some mi) since [] _)=>match S[mi]? with
     |some z=>match mapPs z with
      |some (ps,clock) =>
       bif Nat.blt 1 ps.length&&(Nat.ble clock since&&(belS S.length ((S.set k (.frz none)).set mi (.frz (some ps)))&&belP S.length ps)) then
        match xLess (xRound C X Y R d ops more it2 pd aops code k ((S.set k (.frz none)).set mi (.frz (some ps))) fr) nx fr ps with
        |fr0=>bif subB fr fr0&&(belF S.length fr0&&isPtr k (aEval C (fun t=>xget fr0 t) it)) then
         match xL C X Y ops (xputO fr0 d (.tup [.bool false])) ((S.set k (.frz none)).set mi (.frz (some ps))) with
         |some (frD,SD)=>bif seq SD ((S.set k (.frz none)).set mi (.frz (some ps)))&&isBool false (aEval C (fun t=>xget frD t) more) then
           match xRounds (xRound C X Y R d ops more it2 pd aops code k ((S.set k (.frz none)).set mi (.frz (some ps))) fr0) nx S.length ((S.set k (.frz none)).set mi (.frz (some ps))) fr0 ps with
           |some none=>some (.ext out,frD,((S.set k (.frz none)).set mi (.frz (some ps))).set mi z)
           |some (some (x,fr3,S3))=>some (x,fr3,S3.set mi z)
           |none=>none
          else none
         |none=>none
        else none
       else none
      |none=>none
     |none=>none
    |_=>none
   |_=>none
  else none
 |_=>none
def xRun (C:Cx) (tab:FuncId→Option FE) (ext:FuncId→List AVal→Option AVal):Nat→Runner
 |0,_,_,_,_,_,_=>none
 |n+1,q,N,tag,c,fr,S=>match c with
  |.skip=>some (.nrm,fr,S)
  |.reg id ops=>match q id with
   |some U =>
    match xLR (C.wp C.pc q) (xCall C tab ext (xRun C tab ext n)) (xYield C tab (xRun C tab ext n)) (xPl C tab ext (xRun C tab ext n)) U
      (xHoles C (inU U none none) ops S.length) ops S.length fr (S++List.replicate (xHoles C (inU U none none) ops S.length).length .hole) with
    |some (fr',S')=>some (.nrm,fr',S')
    |none=>none
   |none=>match xL (C.wp C.pc q) (xCall C tab ext (xRun C tab ext n)) (xYield C tab (xRun C tab ext n)) ops fr S with
    |some (fr',S')=>some (.nrm,fr',S')
    |none=>none
  |.nxt d it ops=>match xNext S (aEval C (fun t=>xget fr t) it) with
   |some (v,S1)=>bif (match d with|some k=>Nat.blt k N|none=>true) then
     match xL (C.wp C.pc q) (xCall C tab ext (xRun C tab ext n)) (xYield C tab (xRun C tab ext n)) ops (xputO fr d v) S1 with
     |some (fr',S')=>some (.nrm,fr',S')
     |none=>none
    else none
   |none=>none
  |.seq a b=>match xRun C tab ext n q N tag a fr S with
   |some (.nrm,fr',S')=>xRun C tab ext n q N tag b fr' S'
   |r=>r
  |.cond x a b=>match aEval C (fun t=>xget fr t) x with
   |.bool true=>xRun C tab ext n q N tag a fr S
   |.bool false=>xRun C tab ext n q N tag b fr S
   |_=>none
  |.block id a=>match xRun C tab ext n q N tag a fr S with
   |some (.ext i,fr',S')=>bif Nat.beq i id then some (.nrm,fr',S') else some (.ext i,fr',S')
   |r=>r
  |.loop a=>match xAny (C.wp C.pc q) (xCall C tab ext (xRun C tab ext n)) (xYield C tab (xRun C tab ext n)) (xRun C tab ext n q N tag) q N a fr S with
   |some r=>some r
   |none=>match xRun C tab ext n q N tag a fr S with
    |some (.nrm,fr',S')=>xRun C tab ext n q N tag (.loop a) fr' S'
    |r=>r
  |.scope a=>xRun C tab ext n q N tag a fr S
  |.exit id=>some (.ext id,fr,S)
  |.ret=>some (.ret,fr,S)
  |.rangeFn f ps asg body=>match aEval C (fun t=>xget fr t) f with
   |.fn (.func h) as bs=>match tab h with
    |none=>none
    |some e=>bif Nat.ble (as++[AVal.yld S.length]++bs).length e.N then
     match xRun C tab ext n e.q e.N h e.body (frame0 (as++[AVal.yld S.length]++bs)) (S++[.loop fr N ps.toList asg body .ready none tag]) with
     |some (x,fr1,T)=>bif isFin x then match xRes C fr1 T e.rs with
      |some _=>match T[S.length]? with
       |some (.loop fr2 N2 ps2 asg2 body2 st pend tag2)=>match st with
        |.busy=>none
        |_=>match pend with
         |none=>some (.nrm,fr,T.set S.length (.loop fr2 N2 ps2 asg2 body2 .exhausted pend tag2))
         |some .ret=>some (.ret,fr,T.set S.length (.loop fr2 N2 ps2 asg2 body2 .exhausted pend tag2))
         |some (.exit id)=>some (.ext id,fr,T.set S.length (.loop fr2 N2 ps2 asg2 body2 .exhausted pend tag2))
         |_=>none
       |_=>none
      |none=>none
      else none
     |none=>none
     else none
   |_=>none
  |.other _=>none
structure TabOk (C:Cx) (tab:FuncId→Option FE) (ext:FuncId→List AVal→Option AVal):Prop where
 fn:∀ f e,tab f=some e→FnOk C f e.body e.N e.rs∧BodyOk C f C.pc e.q
 ext:∀ f args r,ext f args=some r→AExt C f args r
 glob:GClosed C
 ok:C.Ok
def ROkX (C:Cx) (R:Runner):Prop:=∀ q N tag lc fr S e fr' S',R q N tag lc fr S=some (e,fr',S')→∀ c,lite c=lc→codeOk (C.wp C.pc q) N c=true →
 AWp (C.wp C.pc q) N c (fun e2 fr2 S2=>e2=e.ex∧fr2=fr'∧S2=S') fr S
section
variable {C:Cx} {tab:FuncId→Option FE} {ext:FuncId→List AVal→Option AVal} {R:Runner}
theorem isFin_ret {x:XE} (h:isFin x=true):isRet x.ex:=by
 cases x<;>first|trivial|(cases h;done)
theorem ROkX.acall (hT:TabOk C tab ext) (hR:ROkX C R) {f:FuncId} {e:FE} (he:tab f=some e) {args:List AVal} (hlen:args.length≤e.N) {S T:St} {x:XE} {fr:Fr} {v:AVal}
  (h:R e.q e.N f e.body (frame0 args) S=some (x,fr,T)) (hx:isFin x=true) (hv:xRes C fr T e.rs=some v):ACall C f args S v T:=by
 obtain ⟨hf,hb⟩:=hT.fn f e he
 obtain ⟨sd,h1,h2⟩:=xRes_ok hv
 refine ⟨hf.callable,fun E vs hE hS hvs hr=>(calls_awp hT.ok hf C.pc e.q hb hlen (K:=fun w U=>w=v∧U=T) (fun c hl hok=>?_) E vs hE hS hvs hr).mono fun _ _ ⟨E',x,_,h1,h2,h3,h4,h5,h6,h7⟩=>⟨E',x,h1,h2,h3,h4,h7,h6▸h5⟩⟩
 refine (hR _ _ _ _ _ _ _ _ _ h c hl hok).mono ?_
 rintro e2 fr2 S2 ⟨rfl,rfl,rfl⟩
 exact ⟨isFin_ret hx,by rw [h1];exact ⟨h2,rfl,rfl⟩⟩
theorem xPl_ok (hT:TabOk C tab ext) (hR:ROkX C R) (q:Nat→Option UL):PLOk (C.wp C.pc q) (xPl C tab ext R):=by
 intro f args r h S
 unfold xPl at h
 split at h
 ·next r' hr =>
  injection h with h
  subst h
  exact (hT.ext f args r' hr).callX
 ·split at h
  ·cases h
  ·next e he =>
   cases hl:(Nat.ble args.length e.N&&(e.plain&&bels 0 (args.map era))) with
   |false=>rw [hl] at h;cases h
   |true =>
    rw [hl] at h
    simp only [cond_true] at h
    simp only [Bool.and_eq_true] at hl
    obtain ⟨hl,hp⟩:=hl
    have hlen:args.length≤e.N:=Nat.le_of_ble_eq_true hl
    split at h
    ·next x fr T hx =>
     cases hi:isFin x with
     |false=>rw [hi] at h;cases h
     |true =>
      rw [hi] at h
      simp only [cond_true] at h
      split at h
      ·next v hv =>
       cases hk:(lookB T v&&bel 0 (look T v)) with
       |false=>rw [hk] at h;cases h
       |true =>
        rw [hk] at h
        simp only [cond_true] at h
        simp only [Bool.and_eq_true] at hk
        injection h with h
        subst h
        obtain ⟨hf,hb⟩:=hT.fn f e he
        obtain ⟨sd,q1,q2⟩:=xRes_ok hv
        have hpure:APure C f (args.map era) (look T v):=apure_awp hT.ok hf C.pc e.q hb (by simpa using hlen) fun c hlc hok=>by
         refine (hR _ _ _ _ _ _ _ _ _ hx c hlc hok).mono ?_
         rintro e2 fr2 S2 ⟨rfl,rfl,rfl⟩
         exact ⟨isFin_ret hi,by rw [q1];exact ⟨q2,lookB_ok hk.1,rfl,clo_ok _ hk.2⟩⟩
        exact hpure.callW hT.glob rfl (fun a ha=>clos_ok _ hp.2 a ha)
      ·cases h
    ·cases h
theorem xCall_ok (hT:TabOk C tab ext) (hR:ROkX C R) (q:Nat→Option UL):XOk (C.wp C.pc q) (xCall C tab ext R):=by
 intro f args S r S' h
 unfold xCall at h
 split at h
 ·next r' hr =>
  injection h with h;injection h with h1 h2
  subst h1 h2
  exact xPl_ok hT hR q f args r' hr S
 ·split at h
  ·cases h
  ·next e he =>
   cases hl:(Nat.ble args.length e.N && !C.pc f) with
   |false=>rw [hl] at h;cases h
   |true =>
    rw [hl] at h
    simp only [cond_true] at h
    simp only [Bool.and_eq_true,Bool.not_eq_true'] at hl
    have hlen:args.length≤e.N:=Nat.le_of_ble_eq_true hl.1
    have fin:∀ {S'},ACall C f args S r S'→CallX (C.wp C.pc q) f args S r S':=fun h=>h.callX hl.2
    split at h
    ·next x fr T hx =>
     cases hi:isFin x with
     |false=>rw [hi] at h;cases h
     |true =>
      rw [hi] at h
      simp only [cond_true] at h
      split at h
      ·next v hv =>
       have ha:=hR.acall hT he hlen hx hi hv
       cases hk:(bel S.length v&&belS S.length (T.take S.length)) with
       |false =>
        rw [hk] at h
        simp only [cond_false] at h
        injection h with h;injection h with h1 h2
        subst h1 h2
        exact fin ha
       |true =>
        rw [hk] at h
        simp only [cond_true] at h
        simp only [Bool.and_eq_true] at hk
        injection h with h;injection h with h1 h2
        subst h1 h2
        exact fin (ha.drop hT.glob (Nat.le_refl _) hk.1 hk.2)
      ·cases h
    ·cases h
theorem xYield_ok (hR:ROkX C R) (q:Nat→Option UL):YOk (C.wp C.pc q) (xYield C tab R):=by
 intro i args S r S' h
 unfold xYield at h
 split at h
 ·next fr N ps asg body pend tag hS =>
  split at h
  ·cases h
  ·next e he =>
   cases hb:(Nat.beq ps.length args.length&&ps.all (fun k=>Nat.blt k N)&&noRF asg&&noRF body&&codeOk (C.wp C.pc e.q) N asg&&codeOk (C.wp C.pc e.q) N body) with
   |false=>rw [hb] at h;cases h
   |true =>
    rw [hb] at h
    simp only [cond_true] at h
    simp only [Bool.and_eq_true] at hb
    obtain ⟨⟨⟨⟨⟨b1,b2⟩,b3⟩,b4⟩,b5⟩,b6⟩:=hb
    split at h
    ·next fr1 T1 hx =>
     split at h
     ·next fr0 N0 ps0 asg0 body0 pend0 tag0 hT1 =>
      split at h
      ·next x fr2 T2 hy =>
       split at h
       ·next fr3 N3 ps3 asg3 body3 st3 pend3 tag3 hT2 =>
        have:=ayield_ok (C:=C) (p:=C.pc) (q:=e.q) hS (nbeq b1) (fun k hk=>blt_iff.1 (List.all_eq_true.1 b2 k hk)) b3 b4 (S':=S') (r:=r) (by
         refine (hR _ _ _ _ _ _ _ _ _ hx asg rfl b5).mono ?_
         rintro e2 fr4 S4 ⟨rfl,rfl,rfl⟩
         refine ⟨rfl,fr0,N0,ps0,asg0,body0,pend0,tag0,hT1,?_⟩
         refine (hR _ _ _ _ _ _ _ _ _ hy body rfl b6).mono ?_
         rintro e5 fr5 S5 ⟨rfl,rfl,rfl⟩
         exact ⟨fr3,N3,ps3,asg3,body3,st3,pend3,tag3,hT2,h⟩)
        exact this
       ·cases h
      ·cases h
     ·cases h
    ·cases h
 ·cases h
theorem holes_ok {N:Nat} {fr:Fr}:∀ (n:Nat) (S:St),GStep C N fr S fr (S++List.replicate n .hole)
 |0,S=>by simpa using GStep.refl fr S
 |n+1,S=>by
  have h1:GStep C N fr S fr (S++[.hole]):=by
   intro E a hE hS hr
   subst hS
   obtain ⟨k1,k2⟩:=env_hole hE
   exact ⟨{ E with mu:=E.mu++[none],S:=E.S++[.hole] },rfl,k1,k2,rfl,hr.ext hE k1⟩
  have h2:=h1.trans (holes_ok n (S++[.hole]))
  rw [List.append_assoc] at h2
  simpa [List.replicate_succ] using h2
theorem awp_gstep {N:Nat} {c:Code} {Q:Post} {fr fr':Fr} {S S':St} (hg:GStep C N fr S fr' S') (h:AWp C N c Q fr' S'):AWp C N c Q fr S:=by
 intro F n hF hro E a hE hS hr
 obtain ⟨E',e1,e2,e3,e4,e5⟩:=hg E a hE hS hr
 have:=h F n hF hro E' a e3 e4 e5
 rw [e1] at this
 refine wpIn_mono this ?_
 rintro e a' w' ⟨E2,fr2,k1,k2,k3,k4,k5⟩
 exact ⟨E2,fr2,k1,k2,e2.trans hE k3,k4,k5⟩
theorem nxt_wp (hC:C.Ok) {N:Nat} {id:Nat} {ops:Array Oper} {d:Option Nat} {it:Operand} {rest:List Oper} {fr fr':Fr} {S S1 S':St} {v:AVal} (h1:nextOf false ops.toList=some (d,it,rest)) (hok:∀ o∈ops.toList,dstB N o=true)
  (hdn:∀ k,d=some k→k<N) (h:aNext (aEval C fr.get it) S fun v' T=>v'=v∧T=S1) (hrun':ARun C ops N none rest (upd fr.get d v) S1 fr'.get S'):AWp C N (.region id ops false) (fun e2 fr2 S2=>e2 = .normal∧fr2=fr'∧S2=S') fr S:=by
 intro F n hF hro E a hE hS hr
 obtain ⟨_,o,hl,ho,hg,hd⟩:=nextOf_some h1
 obtain ⟨is,e1,e2,e3⟩:=range_tail ops o rest hl
 refine wpIn_region ?_
 rw [e1]
 simp only [wpOpsIn,e2]
 rw [if_pos (by simp [Region.wanted,hg])]
 refine ⟨fun f _=>hF.fn f,?_⟩
 rw [Oper.semAt_eq _ _ _ (by rw [ho];intro c h;cases h)]
 subst hS
 obtain ⟨v',y,E',r1,r2,r3,r4,rfl,rfl⟩:=next_ok (P:=C.P) hE (R.eval hE hr it) h o.type
 have hrun:(execOp a.eval o).run C.P E.w = .ok (.value y) E'.w:=by
  simp only [execOp,ho,Sem.run_bind,r1,Result.andThen_ok,Sem.run_pure]
 rw [hrun,Oper.uponIn_value,hd]
 exact hrun'.sound hC is e3 F n hF E' _ r3 rfl ((hr.ext hE r2).put hdn r4) _ fun E2 a2 k1 k2 k3 k4=>⟨E2,fr',rfl,k2,r2.trans hE k1,k4,rfl,rfl,k3⟩
theorem reg_wp (hC:C.Ok) {N:Nat} {id:Nat} {ops:Array Oper} {draw:Bool} {m:Md} {fr fr':Fr} {S S':St} (hok:draw=true→okR C (m.map (·.1)) ops=true) (h:ARun C ops N m ops.toList fr.get S fr'.get S') :
  AWp C N (.region id ops draw) (fun e2 fr2 S2=>e2 = .normal∧fr2=fr'∧S2=S') fr S:=by
 intro F n hF _ E a hE hS hr
 exact region_ok hC hok h F n hF E a hE hS hr _ fun E' a' k1 k2 k3 k4=>⟨E',fr',rfl,k2,k1,k4,rfl,rfl,k3⟩
def LoopR (C:Cx) (R:Runner):Prop:=∀ q N tag lc fr S e fr' S',R q N tag (.loop lc) fr S=some (e,fr',S')→∀ c,lite c=lc→codeOk (C.wp C.pc q) N c=true →
 ∃ j,∀ (F:Fence) (n:Nat),FW F→(F.round=none∨noRF c=true)→∀ (E:Env) (a:Act),Wf C.G E→E.S=S→RF E N fr.get a →
  Code.roundsIn F n C.P c (fun e2 a' w'=>∃ E' fr2,E'.w=w'∧Wf C.G E'∧Ext E E'∧RF E' N fr2.get a'∧e2=e.ex∧fr2=fr'∧E'.S=S') j a E.w
theorem lite_seq {c:Code} {a b:LC} (h:lite c = .seq a b):∃ a' b',c = .seq a' b'∧lite a'=a∧lite b'=b:=by
 cases c<;>simp only [lite] at h<;>try (cases h;done)
 ·split at h<;>cases h
 ·injection h with h1 h2
  exact ⟨_,_,rfl,h1,h2⟩
theorem lite_nxt {c:Code} {d:Option Nat} {it:Operand} {ops:List LO} (h:lite c = .nxt d it ops):∃ id os rest,c = .region id os false∧nextOf false os.toList=some (d,it,rest)∧ops=rest.map (liteO os):=by
 cases c<;>simp only [lite] at h<;>try (cases h;done)
 case region id os draw =>
  split at h
  ·next d' it' rest hn =>
   injection h with h1 h2 h3
   subst h1 h2 h3
   obtain ⟨e0,_⟩:=nextOf_some hn
   subst e0
   exact ⟨id,os,rest,rfl,hn,rfl⟩
  ·cases h
theorem lite_reg {c:Code} {id:Nat} {ops:List LO} (h:lite c = .reg id ops):∃ os draw,c = .region id os draw∧ops=os.toList.map (liteO os):=by
 cases c<;>simp only [lite] at h<;>try (cases h;done)
 case region id os draw =>
  split at h
  ·cases h
  ·injection h with h1 h2
   subst h1
   exact ⟨os,draw,rfl,h2.symm⟩
theorem lite_cond {c:Code} {x:Operand} {a b:LC} (h:lite c = .cond x a b):∃ a' b',c = .cond x a' b'∧lite a'=a∧lite b'=b:=by
 cases c<;>simp only [lite] at h<;>try (cases h;done)
 ·split at h<;>cases h
 ·injection h with h1 h2 h3
  subst h1
  exact ⟨_,_,rfl,h2,h3⟩
theorem lite_block {c:Code} {id:Nat} {a:LC} (h:lite c = .block id a):∃ a',c = .block id a'∧lite a'=a:=by
 cases c<;>simp only [lite] at h<;>try (cases h;done)
 ·split at h<;>cases h
 ·injection h with h1 h2
  subst h1
  exact ⟨_,rfl,h2⟩
theorem lite_exit {c:Code} {id:Nat} (h:lite c = .exit id):c = .exit id:=by
 cases c<;>simp only [lite] at h<;>try (cases h;done)
 ·split at h<;>cases h
 ·injection h with h1
  rw [h1]
theorem lite_skip {c:Code} (h:lite c = .skip):c = .skip∨∃ l,c = .label l:=by
 cases c<;>simp only [lite] at h<;>try (cases h;done)
 ·exact .inl rfl
 ·split at h<;>cases h
 ·exact .inr ⟨_,rfl⟩
theorem nodupB_ok:∀ {l:List Nat},nodupB l=true→l.Nodup
 |[],_=>.nil
 |a::l,h=>by
  simp only [nodupB,Bool.and_eq_true,Bool.not_eq_true'] at h
  refine List.nodup_cons.2 ⟨fun hm=>?_,nodupB_ok h.2⟩
  have:inL l a=true:=List.any_eq_true.2 ⟨a,hm,by simp⟩
  rw [h.1] at this
  cases this
theorem mapPs_ok {z:ABox} {ps:List (AVal × AVal)} {c:Nat} (h:mapPs z=some (ps,c)):mapZ ps c z:=by
 unfold mapPs at h
 split at h
 ·injection h with h
  injection h with h1 h2
  subst h1 h2
  exact .inl rfl
 ·next es c' =>
  cases hb:(nodupB (es.map fun e=>e.2.2)&&es.all (fun e=>Nat.blt e.2.2 c')) with
  |false=>rw [hb] at h;cases h
  |true =>
   rw [hb] at h
   simp only [cond_true] at h
   injection h with h
   injection h with h1 h2
   subst h1 h2
   simp only [Bool.and_eq_true] at hb
   exact .inr ⟨es,rfl,.refl _,nodupB_ok hb.1,fun e he=>blt_iff.1 (List.all_eq_true.1 hb.2 e he)⟩
 ·cases h
theorem subB_ok {fr F:Fr} (h:subB fr F=true):Sub fr F:=Sub.of_all fun p hp=>by
 have:=veq_ok _ _ (List.all_eq_true.1 h p hp)
 rw [← xget_eq];exact this
theorem isBool_ok {b:Bool} {v:AVal} (h:isBool b v=true):v = .bool b:=by
 unfold isBool at h
 split at h
 ·rw [beq_iff_eq.1 h]
 ·cases h
theorem isPtr_ok {k:Nat} {v:AVal} (h:isPtr k v=true):v = .ptr k 0:=by
 unfold isPtr at h
 split at h
 ·rw [nbeq h]
 ·cases h
theorem xRounds_ok {rd:AVal × AVal→Option (XE × Fr × St)} {nx n:Nat} {Sf:St} {fr0:Fr}:∀ {ps:List (AVal × AVal)} {Res:Option (XE × Fr × St)},xRounds rd nx n Sf fr0 ps=some Res →
  (Res=none∨∃ e∈ps,(match rd e with|some (x,_,_)=>isCont nx x|none=>true)=false) ∧
  ∀ e∈ps,∃ x fr3 S3,rd e=some (x,fr3,S3)∧((isCont nx x=true∧S3.take n=Sf∧Sub fr3 fr0)∨(isCont nx x=false∧Res=some (x,fr3,S3)))
 |[],Res,h=>by
  simp only [xRounds,Option.some.injEq] at h
  subst h
  exact ⟨.inl rfl,fun e he=>by cases he⟩
 |e::ps,Res,h=>by
  simp only [xRounds] at h
  split at h
  ·next x fr3 S3 hr =>
   cases hc:isCont nx x with
   |true =>
    rw [hc] at h
    simp only [cond_true] at h
    cases hb:(seq (S3.take n) Sf&&subB fr3 fr0) with
    |false=>rw [hb] at h;cases h
    |true =>
     rw [hb] at h
     simp only [cond_true] at h
     simp only [Bool.and_eq_true] at hb
     obtain ⟨h1,h2⟩:=xRounds_ok h
     refine ⟨h1.imp id fun ⟨e',he',hh⟩=>⟨e',List.mem_cons_of_mem _ he',hh⟩,fun e' he'=>?_⟩
     rcases List.mem_cons.1 he' with rfl|he'
     ·exact ⟨x,fr3,S3,hr,.inl ⟨hc,seq_ok hb.1,subB_ok hb.2⟩⟩
     ·exact h2 e' he'
   |false =>
    rw [hc] at h
    simp only [cond_false] at h
    split at h
    ·next hn =>
     injection h with h
     subst h
     obtain ⟨h1,h2⟩:=xRounds_ok hn
     refine ⟨.inr ⟨e,List.mem_cons_self ..,by rw [hr];exact hc⟩,fun e' he'=>?_⟩
     rcases List.mem_cons.1 he' with rfl|he'
     ·exact ⟨x,fr3,S3,hr,.inr ⟨hc,rfl⟩⟩
     ·obtain ⟨x',f',s',g1,g2⟩:=h2 e' he'
      rcases g2 with g2|⟨_,g2⟩
      ·exact ⟨x',f',s',g1,.inl g2⟩
      ·cases g2
    ·cases h
  ·cases h
theorem isCont_iff {nx:Nat} {x:XE}:isCont nx x=true↔x = .nrm∨x = .ext nx:=by
 cases x with
 |nrm=>simp [isCont]
 |ext i=>simp [isCont]
 |ret=>simp [isCont]
theorem dN_ok {d:Option Nat} {N:Nat} (h:dN d N=true):∀ k,d=some k→k<N:=by
 intro k hk
 subst hk
 exact blt_iff.1 h
theorem xAny_ok {C:Cx} {q:Nat→Option UL} {X:Fuel} {Y:FuelY} {R:LC→Fr→St→Option (XE × Fr × St)} (hC:C.Ok) (hG:GClosed C) (hX:XOk (C.wp C.pc q) X) (hY:YOk (C.wp C.pc q) Y) {N:Nat}
  (hR:∀ lc fr S e fr' S',R lc fr S=some (e,fr',S')→∀ c,lite c=lc→codeOk (C.wp C.pc q) N c=true→AWp (C.wp C.pc q) N c (fun e2 fr2 S2=>e2=e.ex∧fr2=fr'∧S2=S') fr S)
  {lc:LC} {fr fr':Fr} {S S':St} {e:XE} (h:xAny (C.wp C.pc q) X Y R q N lc fr S=some (e,fr',S')) {c:Code} (hl:lite c=lc) (hok:codeOk (C.wp C.pc q) N c=true) :
  ∃ j,∀ (F:Fence) (n:Nat),FW F→(F.round=none∨noRF c=true)→∀ (E:Env) (a:Act),Wf C.G E→E.S=S→RF E N fr.get a →
   Code.roundsIn F n C.P c (fun e2 a' w'=>∃ E' fr2,E'.w=w'∧Wf C.G E'∧Ext E E'∧RF E' N fr2.get a'∧e2=e.ex∧fr2=fr'∧E'.S=S') j a E.w:=by
 unfold xAny at h
 split at h
 ·next d it ops more out nx aid pd it2 aops code =>
  obtain ⟨c1,c2,rfl,l1,l2⟩:=lite_seq hl
  obtain ⟨rid,ros,rrest,rfl,n1,rfl⟩:=lite_nxt l1
  obtain ⟨c3,c4,rfl,l3,l4⟩:=lite_seq l2
  obtain ⟨sk,c5,rfl,l5,l6⟩:=lite_cond l3
  obtain rfl:=lite_exit l6
  obtain ⟨c7,rfl,l7⟩:=lite_block l4
  obtain ⟨c8,c9,rfl,l8,l9⟩:=lite_seq l7
  obtain ⟨aos,draw,rfl,la⟩:=lite_reg l8
  have hsk:=lite_skip l5
  cases haos:aos.toList with
  |nil=>rw [haos] at la;cases la
  |cons p arest =>
   rw [haos] at la
   simp only [List.map_cons,List.cons.injEq] at la
   obtain ⟨lp,rfl⟩:=la
   have hp:p.op = .entry it2:=(congrArg LO.op lp).symm
   have hpd:p.dst=pd:=(congrArg LO.d lp).symm
   have hpg:p.guard=none:=by
    have:=congrArg LO.gd lp
    simp only [liteO] at this
    cases hg:p.guard with
    |none=>rfl
    |some g=>rw [hg] at this;cases this
   simp only [codeOk,Bool.and_eq_true] at hok
   obtain ⟨⟨⟨ok1,_⟩,_⟩,⟨_,⟨⟨ok2,_⟩,ok3⟩,ok4⟩⟩:=hok
   rw [List.all_eq_true] at ok1 ok2
   have hdraw:draw=false:=by
    cases draw with
    |false=>rfl
    |true =>
     simp only [Bool.not_true,Bool.false_or,Bool.not_eq_true',haos,entF,hp] at ok3
     cases ok3
   subst hdraw
   obtain ⟨_,o0,ro1,_⟩:=nextOf_some n1
   have hrok:∀ o∈rrest,dstB N o=true:=fun o ho=>ok1 o (by rw [ro1];exact List.mem_cons_of_mem _ ho)
   have haok:∀ o∈arest,dstB N o=true:=fun o ho=>ok2 o (by rw [haos];exact List.mem_cons_of_mem _ ho)
   cases hb1:((q aid).isNone&&(dN d N&&dN pd N)) with
   |false=>rw [hb1] at h;cases h
   |true =>
    rw [hb1] at h
    simp only [cond_true] at h
    simp only [Bool.and_eq_true] at hb1
    rw [xget_fun] at h
    split at h
    ·next k hit =>
     split at h
     ·next mi since last hk =>
      split at h
      ·next z hm =>
       split at h
       ·next ps clock hps =>
        generalize hSf:(S.set k (.frz none)).set mi (.frz (some ps))=Sf at h
        cases hb2:(Nat.blt 1 ps.length&&(Nat.ble clock since&&(belS S.length Sf&&belP S.length ps))) with
        |false=>rw [hb2] at h;cases h
        |true =>
         rw [hb2] at h
         simp only [cond_true] at h
         simp only [Bool.and_eq_true] at hb2
         obtain ⟨_,hsc,hbS,hbP⟩:=hb2
         generalize hfr0:xLess (xRound (C.wp C.pc q) X Y R d (rrest.map (liteO ros)) more it2 pd (arest.map (liteO aos)) code k Sf fr) nx fr ps=fr0 at h
         cases hb3:(subB fr fr0&&(belF S.length fr0&&isPtr k (aEval (C.wp C.pc q) (fun t=>xget fr0 t) it))) with
         |false=>rw [hb3] at h;cases h
         |true =>
          rw [hb3] at h
          simp only [cond_true] at h
          simp only [Bool.and_eq_true] at hb3
          obtain ⟨hsub,hbF,hit0⟩:=hb3
          split at h
          ·next frD SD hD =>
           cases hb4:(seq SD Sf&&isBool false (aEval (C.wp C.pc q) (fun t=>xget frD t) more)) with
           |false=>rw [hb4] at h;cases h
           |true =>
            rw [hb4] at h
            simp only [cond_true] at h
            simp only [Bool.and_eq_true] at hb4
            obtain ⟨hSD,hDc⟩:=hb4
            obtain rfl:=seq_ok hSD
            have mk:∀ Res,xRounds (xRound (C.wp C.pc q) X Y R d (rrest.map (liteO ros)) more it2 pd (arest.map (liteO aos)) code k SD fr0) nx S.length SD fr0 ps=some Res →
              AnyOk (C.wp C.pc q) N out nx ros aos d it it2 more rrest arest p c9 k mi since last clock z ps fr0 frD S SD
               (fun e=>match xRound (C.wp C.pc q) X Y R d (rrest.map (liteO ros)) more it2 pd (arest.map (liteO aos)) code k SD fr0 e with|some (x,_,_)=>isCont nx x|none=>true) Res:=by
             intro Res hRes
             obtain ⟨r1,r2⟩:=xRounds_ok hRes
             refine ⟨n1,dN_ok hb1.2.1,haos,hp,hpg,by rw [hpd];exact dN_ok hb1.2.2,?_,hk,hm,mapPs_ok hps,Nat.le_of_ble_eq_true hsc,hSf.symm,hbS,hbP,belF_get hbF,?_,?_,r1,fun e he=>?_⟩
             ·rw [xget_fun] at hit0;exact isPtr_ok hit0
             ·have:=xL_run (N:=N) (ops:=ros) hX hY rrest _ _ _ _ hrok hD
              rw [xputO_get] at this
              exact this
             ·rw [xget_fun] at hDc;exact isBool_ok hDc
             ·obtain ⟨x,fr3,S3,g1,g2⟩:=r2 e he
              have g0:=g1
              unfold xRound at g1
              split at g1
              ·next fr1 S1 hx1 =>
               cases hb5:(seq S1 SD&&(isBool true (aEval (C.wp C.pc q) (fun t=>xget fr1 t) more)&&isPtr k (aEval (C.wp C.pc q) (fun t=>xget fr1 t) it2))) with
               |false=>rw [hb5] at g1;cases g1
               |true =>
                rw [hb5] at g1
                simp only [cond_true] at g1
                simp only [Bool.and_eq_true] at hb5
                obtain ⟨s1,s2,s3⟩:=hb5
                obtain rfl:=seq_ok s1
                rw [xget_fun] at s2 s3
                split at g1
                ·next fr2 S2 hx2 =>
                 refine ⟨fr1,fr2,S2,x,fr3,S3,?_,isBool_ok s2,isPtr_ok s3,?_,hR _ _ _ _ _ _ g1 c9 l9 ok4,?_⟩
                 ·have:=xL_run (N:=N) (ops:=ros) hX hY rrest _ _ _ _ hrok hx1
                  rw [xputO_get] at this
                  exact this
                 ·have:=xL_run (N:=N) (ops:=aos) hX hY arest _ _ _ _ haok hx2
                  rw [xputO_get,← hpd] at this
                  exact this
                 ·simp only [g0]
                  rcases g2 with ⟨t1,t2,t3⟩|⟨t1,t2⟩
                  ·exact .inl ⟨t1,isCont_iff.1 t1,t2,t3⟩
                  ·refine .inr ⟨t1,fun e0=>?_,fun e0=>?_,t2⟩
                   ·rw [isCont_iff.2 (.inl e0)] at t1;cases t1
                   ·rw [isCont_iff.2 (.inr e0)] at t1;cases t1
                ·cases g1
              ·cases g1
            have fin:∀ Res,xRounds (xRound (C.wp C.pc q) X Y R d (rrest.map (liteO ros)) more it2 pd (arest.map (liteO aos)) code k SD fr0) nx S.length SD fr0 ps=some Res →
              (∀ (e2:Exit) (f:Fr) (T:St),anyQ out frD SD Res mi z e2 f T→e2=e.ex∧f=fr'∧T=S') →
              ∃ j,∀ (F:Fence) (n:Nat),FW F→(F.round=none∨noRF (.seq (.region rid ros false) (.seq (.cond more sk (.exit out)) (.block nx (.seq (.region aid aos false) c9))))=true)→∀ (E:Env) (a:Act),Wf C.G E→E.S=S→RF E N fr.get a →
               Code.roundsIn F n C.P (.seq (.region rid ros false) (.seq (.cond more sk (.exit out)) (.block nx (.seq (.region aid aos false) c9)))) (fun e2 a' w'=>∃ E' fr2,E'.w=w'∧Wf C.G E'∧Ext E E'∧RF E' N fr2.get a'∧e2=e.ex∧fr2=fr'∧E'.S=S') j a E.w:=by
             intro Res hRes hq
             refine ⟨ps.length+1,fun F n hF hro E a hE hS hr=>?_⟩
             have hro':F.round=none∨noRF c9=true:=by
              rcases hro with h|h
              ·exact .inl h
              ·simp only [noRF,Bool.and_eq_true] at h
               exact .inr h.2.2.2
             refine rounds_mono ?_ _ _ _ (any_loop (hC.wp C.pc q) hG (mk Res hRes) hsk F n hF hro' E a hE hS (hr.sub (subB_ok hsub)))
             rintro e2 a2 w2 ⟨E2,f2,y1,y2,y3,y4,y5⟩
             exact ⟨E2,f2,y1,y2,y3,y4,hq _ _ _ y5⟩
            split at h
            ·next hRes =>
             injection h with h
             simp only [Prod.mk.injEq] at h
             obtain ⟨rfl,rfl,rfl⟩:=h
             exact fin none hRes fun _ _ _ h=>h
            ·next x fr3 S3 hRes =>
             injection h with h
             simp only [Prod.mk.injEq] at h
             obtain ⟨rfl,rfl,rfl⟩:=h
             exact fin _ hRes fun _ _ _ h=>h
            ·cases h
          ·cases h
       ·cases h
      ·cases h
     ·cases h
    ·cases h
 ·cases h
theorem xRun_both (hT:TabOk C tab ext):∀ n,ROkX C (xRun C tab ext n)∧LoopR C (xRun C tab ext n):=by
 intro n
 induction n with
 |zero=>exact ⟨fun q N tag lc fr S e fr' S' h=>by simp [xRun] at h,fun q N tag lc fr S e fr' S' h=>by simp [xRun] at h⟩
 |succ n IHH =>
  obtain ⟨IH,IL⟩:=IHH
  have loops:LoopR C (xRun C tab ext (n+1)):=by
   intro q N tag lc fr S e fr' S' h c hl hok
   simp only [xRun] at h
   split at h
   ·next r hx =>
    injection h with h
    subst h
    exact xAny_ok hT.ok hT.glob (xCall_ok hT IH q) (xYield_ok (tab:=tab) IH q) (fun lc fr S e fr' S' h c hl hok=>IH _ _ _ _ _ _ _ _ _ h c hl hok) hx hl hok
   subst hl
   split at h
   ·next fr1 S1 hx =>
    obtain ⟨j,hj⟩:=IL _ _ _ _ _ _ _ _ _ h c rfl hok
    refine ⟨j+1,fun F m hF hro E ac hE hS hr=>?_⟩
    rw [roundsIn_succ]
    refine wpIn_mono (IH _ _ _ _ _ _ _ _ _ hx c rfl hok F m hF hro E ac hE hS hr) ?_
    rintro e2 a2 w2 ⟨E2,fr2,rfl,k2,k3,k4,rfl,rfl,rfl⟩
    have hj:=hj F m hF hro E2 a2 k2 rfl k4
    exact rounds_mono (fun e3 a3 w3 ⟨E3,fr3,j1,j2,j3,j4,j5⟩=>⟨E3,fr3,j1,j2,k3.trans hE j3,j4,j5⟩) j _ _ hj
   ·next hne =>
    refine ⟨1,fun F m hF hro E ac hE hS hr=>?_⟩
    rw [roundsIn_succ]
    refine wpIn_mono (IH _ _ _ _ _ _ _ _ _ h c rfl hok F m hF hro E ac hE hS hr) ?_
    rintro e2 a2 w2 ⟨E2,fr2,rfl,k2,k3,k4,rfl,rfl,rfl⟩
    cases e with
    |nrm=>exact absurd h (hne _ _)
    |ext i=>exact ⟨E2,fr2,rfl,k2,k3,k4,rfl,rfl,rfl⟩
    |ret=>exact ⟨E2,fr2,rfl,k2,k3,k4,rfl,rfl,rfl⟩
  refine ⟨?_,loops⟩
  intro q N tag lc fr S e fr' S' h c hl hok
  have hC:=hT.ok.wp C.pc q
  have hX:=xCall_ok hT IH q
  have hP:=xPl_ok hT IH q
  have hY:=xYield_ok (tab:=tab) IH q
  cases c with
  |skip =>
   subst hl
   simp only [lite,xRun,Option.some.injEq,Prod.mk.injEq] at h
   obtain ⟨rfl,rfl,rfl⟩:=h
   intro F m hF _ E a hE hS hr
   exact wpIn_skip ⟨E,fr,rfl,hE,Ext.refl E,hr,rfl,rfl,hS⟩
  |label l =>
   subst hl
   simp only [lite,xRun,Option.some.injEq,Prod.mk.injEq] at h
   obtain ⟨rfl,rfl,rfl⟩:=h
   intro F m hF _ E a hE hS hr
   exact wpIn_label ⟨E,fr,rfl,hE,Ext.refl E,hr,rfl,rfl,hS⟩
  |exit id =>
   subst hl
   simp only [lite,xRun,Option.some.injEq,Prod.mk.injEq] at h
   obtain ⟨rfl,rfl,rfl⟩:=h
   intro F m hF _ E a hE hS hr
   exact wpIn_exit ⟨E,fr,rfl,hE,Ext.refl E,hr,rfl,rfl,hS⟩
  |ret =>
   subst hl
   simp only [lite,xRun,Option.some.injEq,Prod.mk.injEq] at h
   obtain ⟨rfl,rfl,rfl⟩:=h
   intro F m hF _ E a hE hS hr
   exact wpIn_ret ⟨E,fr,rfl,hE,Ext.refl E,hr,rfl,rfl,hS⟩
  |goto l=>subst hl;simp [lite,xRun] at h
  |refuse w=>subst hl;simp [lite,xRun] at h
  |region id ops draw =>
   simp only [codeOk,Bool.and_eq_true,Bool.or_eq_true,Bool.not_eq_true',List.all_eq_true] at hok
   obtain ⟨⟨hd,hdr⟩,_⟩:=hok
   subst hl
   simp only [lite] at h
   cases hn:nextOf draw ops.toList with
   |some t =>
    obtain ⟨d,it,rest⟩:=t
    rw [hn] at h
    obtain ⟨e0,o,ho1,_⟩:=nextOf_some hn
    subst e0
    simp only [xRun] at h
    split at h
    ·next v S1 hx =>
     cases hb:(match d with|some k=>Nat.blt k N|none=>true) with
     |false=>rw [hb] at h;cases h
     |true =>
      rw [hb] at h
      simp only [cond_true] at h
      split at h
      ·next fr1 S2 hy =>
       injection h with h
       simp only [Prod.mk.injEq] at h
       obtain ⟨rfl,rfl,rfl⟩:=h
       have hdn:∀ k,d=some k→k<N:=fun k hk=>by subst hk;exact blt_iff.1 hb
       have hrun:=xL_run (N:=N) (ops:=ops) hX hY rest _ _ _ _ (fun o ho=>hd o (by rw [ho1];exact List.mem_cons_of_mem _ ho)) hy
       rw [xputO_get] at hrun
       rw [xget_fun] at hx
       exact nxt_wp hC hn hd hdn (xNext_ok hx (K:=fun v' T=>v'=v∧T=S1) ⟨rfl,rfl⟩) hrun
      ·cases h
    ·cases h
   |none =>
    rw [hn] at h
    simp only [xRun] at h
    cases hq:q id with
    |some U =>
     rw [hq] at h
     simp only at h
     split at h
     ·next fr1 S1 hx =>
      injection h with h
      simp only [Prod.mk.injEq] at h
      obtain ⟨rfl,rfl,rfl⟩:=h
      obtain ⟨B,hrun⟩:=xLR_run hX hY hP hd hx
      refine awp_gstep (holes_ok _ _) (reg_wp hC (m:=some (_,_,_)) (fun e=>?_) hrun)
      rcases hdr with h|h
      ·rw [e] at h;cases h
      ·have:(C.wp C.pc q).bm id=some U:=hq
       rw [this] at h
       exact h
     ·cases h
    |none =>
     rw [hq] at h
     simp only at h
     split at h
     ·next fr1 S1 hx =>
      injection h with h
      simp only [Prod.mk.injEq] at h
      obtain ⟨rfl,rfl,rfl⟩:=h
      refine reg_wp hC (m:=none) (fun e=>?_) (xL_run hX hY ops.toList _ _ _ _ hd hx)
      rcases hdr with h|h
      ·rw [e] at h;cases h
      ·have:(C.wp C.pc q).bm id=none:=hq
       rw [this] at h
       exact h
     ·cases h
  |seq a b =>
   subst hl
   simp only [codeOk,Bool.and_eq_true] at hok
   simp only [lite,xRun] at h
   intro F m hF hro E ac hE hS hr
   simp only [noRF,Bool.and_eq_true] at hro
   split at h
   ·next fr1 S1 hx =>
    refine wpIn_seq (wpIn_mono (IH _ _ _ _ _ _ _ _ _ hx a rfl hok.1 F m hF (hro.imp id (·.1)) E ac hE hS hr) ?_)
    rintro e2 a2 w2 ⟨E2,fr2,rfl,k2,k3,k4,rfl,rfl,rfl⟩
    exact wpIn_mono (IH _ _ _ _ _ _ _ _ _ h b rfl hok.2 F m hF (hro.imp id (·.2)) E2 a2 k2 rfl k4) fun e3 a3 w3 ⟨E3,fr3,j1,j2,j3,j4,j5⟩=>⟨E3,fr3,j1,j2,k3.trans hE j3,j4,j5⟩
   ·next hne =>
    refine wpIn_seq (wpIn_mono (IH _ _ _ _ _ _ _ _ _ h a rfl hok.1 F m hF (hro.imp id (·.1)) E ac hE hS hr) ?_)
    rintro e2 a2 w2 ⟨E2,fr2,rfl,k2,k3,k4,rfl,rfl,rfl⟩
    cases e with
    |nrm=>exact absurd h (hne _ _)
    |ext i=>exact ⟨E2,fr2,rfl,k2,k3,k4,rfl,rfl,rfl⟩
    |ret=>exact ⟨E2,fr2,rfl,k2,k3,k4,rfl,rfl,rfl⟩
  |cond x a b =>
   subst hl
   simp only [codeOk,Bool.and_eq_true] at hok
   simp only [lite,xRun] at h
   rw [xget_fun] at h
   intro F m hF hro E ac hE hS hr
   simp only [noRF,Bool.and_eq_true] at hro
   have hc:=R.eval hE hr x
   split at h
   ·next ht =>
    have ht':aEval (C.wp C.pc q) fr.get x = .bool true:=ht
    rw [ht'] at hc
    exact wpIn_cond_true hc.bool_inv (IH _ _ _ _ _ _ _ _ _ h a rfl hok.1 F m hF (hro.imp id (·.1)) E ac hE hS hr)
   ·next ht =>
    have ht':aEval (C.wp C.pc q) fr.get x = .bool false:=ht
    rw [ht'] at hc
    exact wpIn_cond_false hc.bool_inv (IH _ _ _ _ _ _ _ _ _ h b rfl hok.2 F m hF (hro.imp id (·.2)) E ac hE hS hr)
   ·cases h
  |block id a =>
   subst hl
   simp only [lite,xRun] at h
   intro F m hF hro E ac hE hS hr
   split at h
   ·next i fr1 S1 hx =>
    refine wpIn_block (wpIn_mono (IH _ _ _ _ _ _ _ _ _ hx a rfl hok F m hF hro E ac hE hS hr) ?_)
    rintro e2 a2 w2 ⟨E2,fr2,rfl,k2,k3,k4,rfl,rfl,rfl⟩
    simp only [XE.ex,Exit.inBlock]
    cases hi:Nat.beq i id with
    |true =>
     rw [hi] at h
     simp only [cond_true,Option.some.injEq,Prod.mk.injEq] at h
     obtain ⟨rfl,rfl,rfl⟩:=h
     rw [if_pos (nbeq hi)]
     exact ⟨E2,fr2,rfl,k2,k3,k4,rfl,rfl,rfl⟩
    |false =>
     rw [hi] at h
     simp only [cond_false,Option.some.injEq,Prod.mk.injEq] at h
     obtain ⟨rfl,rfl,rfl⟩:=h
     rw [if_neg (fun e=>by rw [e] at hi;simp at hi)]
     exact ⟨E2,fr2,rfl,k2,k3,k4,rfl,rfl,rfl⟩
   ·next hne =>
    refine wpIn_block (wpIn_mono (IH _ _ _ _ _ _ _ _ _ h a rfl hok F m hF hro E ac hE hS hr) ?_)
    rintro e2 a2 w2 ⟨E2,fr2,rfl,k2,k3,k4,rfl,rfl,rfl⟩
    cases e with
    |nrm=>exact ⟨E2,fr2,rfl,k2,k3,k4,rfl,rfl,rfl⟩
    |ext i=>exact absurd h (hne _ _ _)
    |ret=>exact ⟨E2,fr2,rfl,k2,k3,k4,rfl,rfl,rfl⟩
  |scope a =>
   subst hl
   simp only [lite,xRun] at h
   intro F m hF hro E ac hE hS hr
   refine wpIn_scope (wpIn_mono (IH _ _ _ _ _ _ _ _ _ h a rfl hok F m hF hro E ac hE hS hr) ?_)
   rintro e2 a2 w2 ⟨E2,fr2,rfl,k2,k3,k4,rfl,rfl,rfl⟩
   cases e<;>exact ⟨E2,fr2,rfl,k2,k3,k4,rfl,rfl,rfl⟩
  |loop a =>
   subst hl
   intro F m hF hro E ac hE hS hr
   obtain ⟨j,hj⟩:=loops _ _ _ _ _ _ _ _ _ h a rfl hok
   exact wpIn_loop_rounds j (hj F m hF (by simpa [noRF] using hro) E ac hE hS hr)
  |rangeFunc f ps asg body =>
   subst hl
   simp only [lite,xRun] at h
   rw [xget_fun] at h
   refine rangeFn_sound ?_
   simp only [aC]
   have e0:aEval (C.wp C.pc q) fr.get f=aEval C fr.get f:=rfl
   rw [e0]
   split at h
   ·next g as bs hf =>
    rw [hf]
    split at h
    ·cases h
    ·next fe he =>
     cases hlb:Nat.ble (as++[AVal.yld S.length]++bs).length fe.N with
     |false=>rw [hlb] at h;cases h
     |true =>
      rw [hlb] at h
      simp only [cond_true] at h
      split at h
      ·next x fr1 T hx =>
       cases hi:isFin x with
       |false=>rw [hi] at h;cases h
       |true =>
        rw [hi] at h
        simp only [cond_true] at h
        split at h
        ·next v hv =>
         have ha:=IH.acall hT he (Nat.le_of_ble_eq_true hlb) hx hi hv
         split at h
         ·next fr2 N2 ps2 asg2 body2 st pend tag2 hT2 =>
          have key:st ≠ .busy∧pendQ (fun e2 fr2 S2=>e2=e.ex∧fr2=fr'∧S2=S') pend fr (T.set S.length (.loop fr2 N2 ps2 asg2 body2 .exhausted pend tag2)):=by
           split at h
           ·cases h
           ·next hst =>
            refine ⟨hst,?_⟩
            split at h
            ·injection h with h
             simp only [Prod.mk.injEq] at h
             obtain ⟨rfl,rfl,rfl⟩:=h
             exact ⟨rfl,rfl,rfl⟩
            ·injection h with h
             simp only [Prod.mk.injEq] at h
             obtain ⟨rfl,rfl,rfl⟩:=h
             exact ⟨rfl,rfl,rfl⟩
            ·injection h with h
             simp only [Prod.mk.injEq] at h
             obtain ⟨rfl,rfl,rfl⟩:=h
             exact ⟨rfl,rfl,rfl⟩
            ·cases h
          exact ⟨tag,v,T,fr2,N2,ps2,asg2,body2,st,pend,tag2,ha.wp C.pc q,hT2,key.1,key.2⟩
         ·cases h
        ·cases h
      ·cases h
   ·cases h
theorem xPure_ok (hT:TabOk C tab ext) (n:Nat) {f:FuncId} {e:FE} (he:tab f=some e) {args:List AVal} (hlen:args.length≤e.N) {r:AVal}
  (h:(match xRun C tab ext n e.q e.N f e.body (frame0 args) [] with
   |some (x,fr,T)=>bif isFin x then match xRes C fr T e.rs with
     |some v=>lookB T v&&bel 0 (look T v)&&veq (look T v) r
     |none=>false
    else false
   |none=>false)=true):APure C f args r:=by
 split at h
 ·next x fr T hx =>
  cases hi:isFin x with
  |false=>rw [hi] at h;cases h
  |true =>
   rw [hi] at h
   simp only [cond_true] at h
   split at h
   ·next v hv =>
    simp only [Bool.and_eq_true] at h
    obtain ⟨⟨h1,h2⟩,h3⟩:=h
    obtain ⟨hf,hb⟩:=hT.fn f e he
    obtain ⟨sd,q1,q2⟩:=xRes_ok hv
    have:=veq_ok _ _ h3
    rw [← this]
    exact apure_awp hT.ok hf C.pc e.q hb hlen fun c hlc hok=>by
     refine ((xRun_both hT n).1 _ _ _ _ _ _ _ _ _ hx c hlc hok).mono ?_
     rintro e2 fr2 S2 ⟨rfl,rfl,rfl⟩
     exact ⟨isFin_ret hi,by rw [q1];exact ⟨q2,lookB_ok h1,rfl,clo_ok _ h2⟩⟩
   ·cases h
 ·cases h
end
end
end Go.Am
