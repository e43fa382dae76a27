/- The library's sorting of a map's keys, at this program. -/
import Derived.Test.YteemcehaekffeaaGreatTryzSj
import Derived.Test.YteemcehaekffeaaGreatAmSort
import Derived.Test.YteemcehaekffeaaGreatTryzLq
import Derived.Test.YteemcehaekffeaaGreatO17
import Derived.Test.YteemcehaekffeaaGreatAmRange
import Derived.Test.YteemcehaekffeaaGreatAmEnd
import Derived.Test.YteemcehaekffeaaGreatAmWalkE
set_option linter.unusedVariables false
set_option linter.unusedSimpArgs false
section
namespace Go.Am
open Go Go.Proofs Go.RowKit Go.Maps Go.Sort Go.Shelf
set_option maxRecDepth 100000
theorem sortsA (m:Nat):AnyZI.SortsIn Tryz.prog Tryz.sortedA_ren Fence.wide m :=
 ⟨fun blk off cap ss W hH hblk hsz=>callsIn_wide.2 (AnyM.slices_Sort_int Tryz.sortA blk off cap ss W hH hblk hsz),fun p cap W=>callsIn_wide.2 (AnyM.slices_Sort_int_none Tryz.sortA p cap W)⟩
set_option maxHeartbeats 1000000 in
theorem sort_ok:SortOk cx.P 53 80 3 3:=by
 refine ⟨⟨_,Tryz.func53,by kernel_rfl,by kernel_rfl⟩,Tryz.underlying3,fun Bm b nn D0 R w hBm hm hown hsz=>?_⟩
 have hseq:SeqGives Fence.wide 2 Tryz.prog 80 #[.pointer (some ⟨Bm,0,none⟩)] encZ (fun ss=>ss.Perm (intKeys D0)) (Maps.size D0) w :=
  AnyZI.keys_gives (ρ:=Tryz.keysA_ren) { Tryz.keysA with } Fence.wide _ trivial rfl (by omega) Bm b nn D0 w hBm hm hown
 exact callsIn_wide.1 (AnyZI.sorted_in Tryz.sortedA Fence.wide 5 trivial trivial trivial trivial rfl (by omega) (sortsA _) (enters_of Tryz.func79 (by kernel_rfl) rfl) 80 #[.pointer (some ⟨Bm,0,none⟩)] trivial (enters_of Tryz.func80 (by kernel_rfl) rfl) _ _ (Nat.le_trans hsz (by decide)) (by omega) _ hseq)
end Go.Am
end
section
namespace Go.Am
open Go Go.Proofs
set_option maxHeartbeats 8000000
set_option maxRecDepth 100000
section
attribute [local irreducible] aC aL thenQ blockQ scopeQ ALoop AWp
structure BoOk (rs:Rs) (c:Nat):Prop where
 lt:∀ e∈rs,e.2.2<c
 nb:(rs.map (·.2.2)).Nodup
 nd:(rs.map (·.1)).Nodup
def rmX (rs:Rs):List (AVal × AVal):=rs.map fun p=>(.int .i64 p.1,.agg (rmC p.2.1))
def reb (q:Rs):Rs:=q.zipIdx.map fun p=>(p.1.1,p.1.2.1,p.2)
theorem reb_app (q:Rs) (e:Int × Rm × Nat):reb (q++[e])=reb q++[(e.1,e.2.1,q.length)]:=by simp [reb,List.zipIdx_append]
theorem reb_len (q:Rs):(reb q).length=q.length:=by simp [reb]
theorem rmE_app (a b:Rs):rmE (a++b)=rmE a++rmE b:=by simp [rmE]
theorem map_idx {α β:Type} (g:α→β):∀ (q:List α) (k:Nat),(q.zipIdx k).map (fun p=>g p.1)=q.map g
 |[],_=>rfl
 |x::q,k=>by simp only [List.zipIdx_cons,List.map_cons,map_idx g q (k+1)]
theorem reb_none {q:Rs} {rd:Int} (h:∀ e∈q,e.1≠rd):at? (reb q) rd=none:=by
 unfold at?
 rw [List.findIdx?_eq_none_iff]
 intro x hx
 unfold reb at hx
 obtain ⟨p,hp,rfl⟩:=List.mem_map.1 hx
 have:=h p.1 (List.fst_mem_of_mem_zipIdx hp)
 simpa using this
theorem snd_idx {α:Type}:∀ (q:List α) (k:Nat),(q.zipIdx k).map (·.2)=List.range' k q.length
 |[],_=>rfl
 |x::q,k=>by simp only [List.zipIdx_cons,List.map_cons,snd_idx q (k+1),List.length_cons,List.range'_succ]
theorem reb_mx {q rs:Rs} (h:q.Perm rs):MX (rmX rs) (rmE (reb q)) rs.length:=by
 have e1:(rmE (reb q)).map (fun e=>(e.1,e.2.1))=rmX q:=by
  unfold rmE reb rmX
  rw [List.map_map,List.map_map]
  exact map_idx (fun p:Int × Rm × Nat=>((.int .i64 p.1,.agg (rmC p.2.1)):AVal × AVal)) q 0
 have e2:(rmE (reb q)).map (fun e=>e.2.2)=List.range' 0 q.length:=by
  unfold rmE reb
  rw [List.map_map,List.map_map,← snd_idx q 0]
  rfl
 refine ⟨by rw [e1];exact h.map _,by rw [e2];exact List.nodup_range' ..,fun e he=>?_⟩
 have:e.2.2∈List.range' 0 q.length:=by rw [← e2];exact List.mem_map.2 ⟨e,he,rfl⟩
 rw [List.mem_range'_1] at this
 rw [← h.length_eq];omega
theorem rm_find {rs:Rs} {e:Int × Rm × Nat} (h:(rs.map (·.2.2)).Nodup) (he:e∈rs):((rmE rs).find? fun x=>x.2.2==e.2.2)=some (.int .i64 e.1,.agg (rmC e.2.1),e.2.2):=by
 induction rs with
 |nil=>cases he
 |cons x rs ih =>
  rw [List.map_cons,List.nodup_cons] at h
  show (List.find? _ ((AVal.int .i64 x.1,AVal.agg (rmC x.2.1),x.2.2)::rmE rs))=_
  rw [List.find?_cons]
  rcases List.mem_cons.1 he with rfl|hm
  ·simp
  ·have:(x.2.2==e.2.2)=false:=by
    rw [beq_eq_false_iff_ne]
    exact fun k=>h.1 (by rw [k];exact List.mem_map.2 ⟨e,hm,rfl⟩)
   simp only [this]
   exact ih h.2 hm
def srt (rs:Rs):Rs:=rs.mergeSort fun a b=>decide (a.1≤b.1)
theorem srt_perm (rs:Rs):(srt rs).Perm rs:=List.mergeSort_perm _ _
theorem srt_len (rs:Rs):(srt rs).length=rs.length:=(srt_perm rs).length_eq
theorem srt_lt {rs:Rs} (h:(rs.map (·.1)).Nodup):(srt rs).Pairwise fun a b=>a.1<b.1:=by
 have h1:(srt rs).Pairwise fun a b=>decide (a.1≤b.1)=true:=List.pairwise_mergeSort (fun a b c h k=>by simp only [decide_eq_true_eq] at *;omega) (fun a b=>by simp only [Bool.or_eq_true,decide_eq_true_eq];omega) rs
 have h2:((srt rs).map (·.1)).Nodup:=((srt_perm rs).map _).nodup_iff.2 h
 unfold List.Nodup at h2
 rw [List.pairwise_map] at h2
 exact (h1.and h2).imp fun k=>by simp only [decide_eq_true_eq] at k;have:=k.2;omega
structure AllJ (rs q:Rs):Prop where
 sub:∀ e∈q,e∈rs
 nb:(q.map (·.2.2)).Nodup
theorem nodup_of {α β:Type} {g:α→β} {l:List α} (h:(l.map g).Nodup):l.Nodup:=by
 unfold List.Nodup at *
 rw [List.pairwise_map] at h
 exact h.imp fun k e=>k (by rw [e])
theorem AllJ.le {rs q:Rs} (h:AllJ rs q):q.length≤rs.length:=(nodup_of h.nb).length_le_of_subset h.sub
theorem AllJ.perm {rs q:Rs} {c:Nat} (h:AllJ rs q) (hb:BoOk rs c) (ha:∀ e∈rs,e.2.2∈q.map (·.2.2)):q.Perm rs:=by
 refine (List.perm_ext_iff_of_nodup (nodup_of h.nb) (nodup_of hb.nb)).2 fun e=>⟨h.sub e,fun he=>?_⟩
 obtain ⟨e',he',k⟩:=List.mem_map.1 (ha e he)
 have:e'=e:=by
  obtain ⟨i,hi,rfl⟩:=List.getElem_of_mem (h.sub e' he')
  obtain ⟨j,hj,rfl⟩:=List.getElem_of_mem he
  have h1:(rs.map (·.2.2))[i]? = (rs.map (·.2.2))[j]?:=by simp only [List.getElem?_map,List.getElem?_eq_getElem hi,List.getElem?_eq_getElem hj,Option.map_some];rw [k]
  have:=(List.getElem?_inj (by simpa using hi) hb.nb).1 h1
  subst this;rfl
 exact this▸he'
theorem inj_key {rs:Rs} {c:Nat} (hb:BoOk rs c) {e e':Int × Rm × Nat} (h:e∈rs) (h':e'∈rs) (k:e.1=e'.1):e=e':=by
 obtain ⟨i,hi,rfl⟩:=List.getElem_of_mem h
 obtain ⟨j,hj,rfl⟩:=List.getElem_of_mem h'
 have h1:(rs.map (·.1))[i]? = (rs.map (·.1))[j]?:=by simp only [List.getElem?_map,List.getElem?_eq_getElem hi,List.getElem?_eq_getElem hj,Option.map_some];rw [k]
 have:=(List.getElem?_inj (by simpa using hi) hb.nd).1 h1
 subst this;rfl
theorem AllJ.step {rs q:Rs} (h:AllJ rs q) {e:Int × Rm × Nat} (he:e∈rs) (hn:e.2.2 ∉ q.map (·.2.2)):AllJ rs (q++[e]):=by
 refine ⟨fun x hx=>?_,?_⟩
 ·rcases List.mem_append.1 hx with hx|hx
  ·exact h.sub x hx
  ·rw [List.mem_singleton.1 hx];exact he
 ·rw [List.map_append,List.nodup_append]
  refine ⟨h.nb,by simp,fun a ha b hb=>?_⟩
  simp only [List.map_cons,List.map_nil,List.mem_singleton] at hb
  rintro rfl
  exact hn (hb▸ha)
variable {S:St} {x a o last:Nat} {rs:Rs} {c:Nat}
theorem realm_all (h:RmsP S x a o last rs c) (hb:BoOk rs c) (hl:∀ e∈rs,e.2.1.log.length≤1000000) :
  ACall cx 17 [.ptr x 0] S (.fn (.func 52) [] [.ptr (S.length+1) 0]) (S++[.mpx (rmX (srt rs)) rs.length,.cells [.map S.length] 88]):=by
 have hT:=fun R:St=>realm_there (h.more R)
 have hbx:=h.bx
 have hmp:=h.mp
 have ho:=h.lt
 refine ACallP.mpx cxG (A:=S) (B:=[.cells [.map S.length] 88]) ?_ (by simp) (by omega) ?_ ?_
 rotate_left
 ·simp only [bel,bels,List.length_append,List.length_cons,List.length_nil,Bool.and_true];exact blt_iff.2 (by omega)
 ·intro i y hy
  rcases Nat.lt_or_ge i S.length with hi|hi
  ·rw [List.getElem?_append_left hi] at hy;exact .inl hy
  ·right
   rw [List.getElem?_append_right hi] at hy
   have:y = .mpx (rmX (srt rs)) rs.length∨y = .cells [.map S.length] 88:=by
    have:=List.mem_of_getElem? hy
    simpa using this
   rcases this with rfl|rfl
   ·exact belP_iff fun e he=>by obtain ⟨p,hp,rfl⟩:=List.mem_map.1 he;exact ⟨rfl,bels_rmC _ _⟩
   ·simp only [belB,bels,bel,List.length_append,List.length_cons,List.length_nil,Bool.and_true];exact blt_iff.2 (by omega)
 have F:=pk2 @hbx @hmp
 refine oQ lq17 ?_
 refine st1 F hT ?_
 refine zRg F ?_
 refine st F ?_
 refine loop_ruleE (cxOk.wp _ _) (cxG.wp _ _) (σ:=Rs) (fun _=>[(13,.ptr (S.length+2) 0),(3,.ptr (S.length+1) 0)]) (fun q=>S++[.mp (rmE (reb q)) q.length,.cells [.map S.length] 88,.iter (some a) c (q.map (·.2.2)) c]) (fun q=>rs.length-q.length) (AllJ rs) (S.length+3) []
  ⟨⟨fun _ h=>(by cases h),by simp⟩,?_,?_⟩ ?_ ?_ (fun q hq=>⟨fun i y hy=>?_,?_⟩) fun q hq=>?_
 ·exact Sub.of_all (by simp [Fr.get])
 ·simp [reb,rmE]
 ·simp
 ·simp
 ·rcases Nat.lt_or_ge i S.length with hi|hi
  ·left
   rw [List.getElem?_append_left hi] at hy
   rw [List.append_assoc,List.getElem?_append_left hi]
   exact hy
  ·right
   rw [List.getElem?_append_right hi] at hy
   have:=List.mem_of_getElem? hy
   simp only [List.mem_cons,List.not_mem_nil,or_false] at this
   rcases this with rfl|rfl|rfl
   ·exact belM_rm _ _
   ·simp only [belB,bels,bel,Bool.and_true];exact blt_iff.2 (by omega)
   ·exact blt_iff.2 (by omega)
 ·simp only [belF,bel,Bool.and_true,Bool.and_eq_true];exact ⟨blt_iff.2 (by omega),blt_iff.2 (by omega)⟩
 have hlen:=hq.le
 refine aC_seq ?_
 refine aC_nxt (k:=S.length+2) (mi:=a) (since:=c) (last:=c) (clock:=c) (seen:=q.map (·.2.2)) (es:=rmE rs) (ev F) (ev F) (ev F) (by intro j h;cases h;decide) ?_ (fun hall=>?_) fun e he hn=>?_
 ·rcases q with _|⟨e,q⟩
  ·exact .inl rfl
  ·exact .inr (.inr ⟨_,List.mem_map.2 ⟨e,hq.sub e (List.mem_cons_self ..),rfl⟩,hb.lt e (hq.sub e (List.mem_cons_self ..))⟩)
 ·refine st F ?_
  have hp:q.Perm rs:=hq.perm hb fun e he=>by
   by_cases k:e.2.2∈q.map (·.2.2)
   ·exact k
   ·have:=hall (.int .i64 e.1,.agg (rmC e.2.1),e.2.2) (List.mem_map.2 ⟨e,he,rfl⟩) k
    have:=hb.lt e he
    simp only at *
    omega
  simp only [aRes,go_sem]
  exact ⟨rmE (reb q),[.iter (some a) c (q.map (·.2.2)) c],(by have:=reb_mx (hp.trans (srt_perm rs).symm);rw [srt_len] at this;exact this),by simp [hp.length_eq]⟩
 ·obtain ⟨e,her,rfl⟩:=List.mem_map.1 he
  have hfe:=rm_find hb.nb her
  have hro:=h.ok e her
  have i1:=length_rmC hro
  have i2:=rm_one e.2.1
  have i3:(rmC e.2.1).take 103=rmC e.2.1:=List.take_of_length_le (by omega)
  have F:=pk7 @hbx @hmp @hfe @i1 @i2 @i3 @o_put0
  refine st F ?_
  refine zEn F ?_ (he:=fun _=>hfe)
  refine st F ?_
  have hD:=fun R:St=>realm_own (S:=S++R) (by simp;omega) e.2.1 hro (hl e her)
  have hnk:at? (reb q) e.1=none:=reb_none fun e' he' k=>hn (List.mem_map.2 ⟨e',he',by rw [inj_key hb (hq.sub e' he') her k]⟩)
  have hset:=set_new hnk
  refine aC_regB (U:=[(some 19,some 22)]) rfl [(some 19,S.length+1),(some 21,S.length+3)] ?_
  have F:=pk8 @hbx @hmp @hset @i1 @i2 @i3 @o_put0 @reb_len
  refine sb1 F hD ?_
  refine bU F ?_ ?_
  ·exact qkeys_rm _ _
  refine sb F ?_
  refine blockQ_normal (thenQ_normal ?_)
  have hle:=(hq.step her hn).le
  rw [List.length_append] at hle
  refine ⟨q++[e],hq.step her hn,Sub.of_all (by simp [Fr.get]),?_,?_⟩
  ·rw [reb_app,rmE_app,List.map_append,List.length_append]
   rw [List.take_append,List.take_of_length_le (by omega),show S.length+3-S.length=3 by omega]
   simp [rmE]
  ·simp only [List.length_append,List.length_singleton] at *;omega
end
end Go.Am
end
section
namespace Go.Am
open Go Go.Proofs
set_option maxHeartbeats 8000000
set_option maxRecDepth 100000
section
attribute [local irreducible] aC aL thenQ blockQ scopeQ ALoop AWp
theorem realm_keys (S:St) (m:Nat):ACall cx 54 [.map m] S (.fn (.func 80) [] [.ptr S.length 0]) (S++[.cells [.map m] 88]) :=
 oA lq54 (wk True.intro)
structure AllB (T:St) (cv m:Nat) (ks:Rs) (clk:Nat):Prop where
 bx:T[cv]? = some (.cells [.map m] 88)
 mp:T[m]? = some (.mpx (rmX ks) clk)
structure KsOk (ks:Rs):Prop where
 lt:ks.Pairwise fun a b=>a.1<b.1
 ok:∀ e∈ks,e.2.1.Ok
 lg:∀ e∈ks,e.2.1.log.length≤1000000
 wf:∀ e∈ks,-9223372036854775808≤e.1∧e.1<9223372036854775808
 ln:ks.length≤1000000
theorem tag_rmX (ks:Rs):tagE (rmX ks)=rmE (ks.map fun e=>(e.1,e.2.1,0)):=by simp [tagE,rmX,rmE]
theorem at_ks {ks:Rs} (h:ks.Pairwise fun a b=>a.1<b.1) {j:Nat} (hj:j<ks.length):at? (ks.map fun e=>(e.1,e.2.1,0)) ks[j].1=some j:=by
 unfold at?
 rw [List.findIdx?_eq_some_iff_getElem]
 refine ⟨by simpa using hj,by simp,fun i hi=>?_⟩
 have:=List.pairwise_iff_getElem.1 h i j (by omega) hj hi
 simp only [List.getElem_map,decide_eq_true_eq]
 omega
theorem look_ks {ks:Rs} (h:ks.Pairwise fun a b=>a.1<b.1) {j:Nat} (hj:j<ks.length) (z:AVal):lookV (.int .i64 ks[j].1) (tagE (rmX ks)) z = .agg (rmC ks[j].2.1):=by
 rw [tag_rmX]
 exact look_rm (at_ks h hj) (e:=(ks[j].1,ks[j].2.1,0)) (by simp [hj]) z
theorem one_ks {ks:Rs} (h:ks.Pairwise fun a b=>a.1<b.1) (rd:Int):oneX (.int .i64 rd) (rmX ks)=true:=by
 unfold oneX
 refine Nat.ble_eq_true_of_le ?_
 induction ks with
 |nil=>simp [rmX]
 |cons x ks ih =>
  rw [List.pairwise_cons] at h
  simp only [rmX,List.map_cons,List.filter_cons] at *
  split
  ·next hx =>
   have e:rd=x.1:=by simpa [AVal.cells,aeqs,aeq] using hx
   have:(List.filter (fun e:AVal × AVal=>aeqs (AVal.int IntKind.i64 rd).cells e.1.cells) (List.map (fun p:Int × Rm × Nat=>(AVal.int IntKind.i64 p.1,AVal.agg (rmC p.2.1))) ks))=[]:=by
    rw [List.filter_eq_nil_iff]
    intro y hy
    obtain ⟨p,hp,rfl⟩:=List.mem_map.1 hy
    have:=h.1 p hp
    have hne:¬ rd=p.1:=by omega
    simp [AVal.cells,aeqs,aeq,hne]
   rw [this];simp
  ·exact ih h.2
theorem keys_ks (ks:Rs) (rd:Int):keysOk cx 3 (.int .i64 rd) (tagE (rmX ks)):=by rw [tag_rmX];exact qkeys_rm _ _
theorem all_range {i cv m clk:Nat} {ks:Rs} (hks:KsOk ks) (I:Nat→St) (e:Nat) (stop:Bool) (he:(stop=false→e=ks.length)∧(stop=true→0<e∧e≤ks.length)) (hA:∀ j,j≤e→AllB (I j) cv m ks clk)
  (hy:∀ (j:Nat) (_:j<e) (h:j<ks.length),AYield cx i [.int .i64 ks[j].1,.agg (rmC ks[j].2.1)] (I j) (.bool (!(stop&&decide (j+1=e)))) (I (j+1)))
  {T:St} (hT:I 0=T++[.cells [.map m] 88]) (hB:AllB T cv m ks clk) :
  ACall cx 52 [.yld i,.ptr cv 0] T (.tup []) (I e):=by
 have hle:e≤ks.length:=by cases stop with|false=>exact Nat.le_of_eq (he.1 rfl)|true=>exact (he.2 rfl).2
 have hb:=hB.bx
 have hm:=hB.mp
 have hml:m<T.length:=(List.getElem?_eq_some_iff.1 hm).1
 have hK:=realm_keys T m
 have hkl:((rmX ks).map fun e=>e.1).Perm ((ks.map (·.1)).map (AVal.int .i64)):=by
  have:((rmX ks).map fun e=>e.1)=(ks.map (·.1)).map (AVal.int .i64):=by simp [rmX]
  rw [this]
 have hS:=sorted_keys sort_ok (S:=T++[.cells [.map m] 88]) (i:=m) (j:=T.length) (c:=clk) (ty:=88) (by rw [List.getElem?_append_left hml];exact hm) (by rw [List.getElem?_append_right (Nat.le_refl _)];simp) hkl
  (by rw [List.pairwise_map];exact hks.lt.imp fun h=>by simpa using h) (fun x hx=>by obtain ⟨p,hp,rfl⟩:=List.mem_map.1 hx;have:=hks.wf p hp;have e1:IntKind.i64.min = -9223372036854775808:=rfl;have e2:IntKind.i64.max=9223372036854775807:=rfl;simp only [Lit.wf,e1,e2,Bool.and_eq_true,decide_eq_true_eq];omega) (by rw [List.length_map];have:=hks.ln;omega)
 refine oA lq52 ?_
 have F:=pk2 @hb @hm
 refine st2 F hK hS ?_
 refine loop_rule (cxOk.wp _ _) (σ:=Nat) (fun j=>[(9,.int .i64 j),(8,.int .i64 ks.length),(7,.sl 1 (ks.map (·.1)).isEmpty ((ks.map (·.1)).map (AVal.int .i64)) .any),(0,.yld i),(1,.ptr cv 0)]) I (fun j=>e-j) (fun j=>j≤e∧(stop=true→j<e)) 0
  (GStep.refl _ _) ⟨⟨Nat.zero_le _,fun h=>(he.2 h).1⟩,?_,hT.symm⟩ fun j hj=>?_
 ·exact Sub.of_all (by simp [Fr.get])
 have hln:=hks.ln
 rcases Nat.lt_or_ge j e with hje|hje
 ·have hjk:j<ks.length:=by omega
  have hjk':((j:Nat):Int)<(ks.length:Int):=by omega
  have hB:=hA j (Nat.le_of_lt hje)
  have hb:=hB.bx
  have hm:=hB.mp
  have hg:((ks.map (·.1)).map (AVal.int .i64)).getD j .any = .int .i64 ks[j].1:=by simp [List.getD,hjk]
  have hml:=(List.getElem?_eq_some_iff.1 hm).1
  have hlk:=look_ks hks.lt hjk
  have hD:=realm_own (S:=I j) (by omega) ks[j].2.1 (hks.ok _ (List.getElem_mem hjk)) (hks.lg _ (List.getElem_mem hjk))
  have hY:=hy j hje hjk
  have F:=pk4 @hb @hm @hg @hlk
  refine st F ?_
  refine zX F ⟨keys_ks ks _,one_ks hks.lt _⟩ ?_
  refine st1 F hD ?_
  generalize hv:(!(stop&&decide (j+1=e)))=v at hY
  refine zY F hY ?_
  cases v with
  |true =>
   refine st F ?_
   refine ⟨j+1,⟨hje,fun h=>?_⟩,Sub.of_all (by simp [Fr.get]),rfl,by omega⟩
   subst h
   have:¬ j+1=e:=by simpa using hv
   omega
  |false =>
   have:j+1=e:=by
    cases stop with
    |false=>simp at hv
    |true=>simpa using hv
   subst this
   exact wk F
 ·have:j=e:=by omega
  subst this
  have hs:stop=false:=by cases stop with|false=>rfl|true=>exact absurd (hj.2 rfl) (by omega)
  have hek:=he.1 hs
  have hek':¬ ((j:Nat):Int)<(ks.length:Int):=by omega
  exact wk True.intro
end
end Go.Am
end
section
namespace Go.Am
open Go Go.Proofs
set_option maxHeartbeats 8000000
set_option maxRecDepth 100000
section
attribute [local irreducible] aC aL thenQ blockQ scopeQ ALoop AWp
theorem rg_gen {N:Nat} {q:Nat→Option UL} {f:Operand} {a b:Nat} {asg body:Code} {Q:Post} {fr:Fr} {S:St} {cv m clk:Nat} {ks:Rs} (hf:aEval (cx.wp cx.pc q) fr.get f = .fn (.func 52) [] [.ptr cv 0]) (hks:KsOk ks) (hB:AllB S cv m ks clk)
  (A K:Nat→St) (e:Nat) (stop:Bool) (he:(stop=false→e=ks.length)∧(stop=true→0<e∧e≤ks.length)) (h0:A 0=S) (k0:K 0=[]) (hl:∀ j,j≤e→(A j).length=S.length) (hA:∀ j,j≤e→AllB (A j) cv m ks clk) {la lb:LC}
  (round:∀ (L0 Ld Lb:ABox) (j:Nat) (_:j<e) (h:j<ks.length),aC (cx.wp cx.pc q) N la (fun x fr1 T1=>x = .normal∧T1[S.length]? = some L0 ∧
   aC (cx.wp cx.pc q) N lb (fun x _ T2=>T2[S.length]? = some Lb∧rEnd L0 Ld S.length (.bool (!(stop&&decide (j+1=e)))) (A (j+1)++((if stop&&decide (j+1=e) then Ld else L0) :: .cells [.map m] 88::K (j+1))) x T2) fr1 (T1.set S.length Lb))
   (putAll fr [a,b] [.int .i64 ks[j].1,.agg (rmC ks[j].2.1)]) (A j++(L0 :: .cells [.map m] 88::K j)))
  (fin:stop=false→∀ L,Q .normal fr (A e++(L :: .cells [.map m] 88::K e))) (finS:stop=true→∀ L,Q .ret fr (A e++(L :: .cells [.map m] 88::K e)))
  (hps:([a,b].all fun k=>Nat.blt k N)=true:=by first|rfl|fail) (hna:noRF asg=true:=by first|kernel_rfl|fail) (hnb:noRF body=true:=by first|kernel_rfl|fail) (hca:codeOk (cx.wp cx.pc q) N asg=true:=by first|kernel_rfl|fail) (hcb:codeOk (cx.wp cx.pc q) N body=true:=by first|kernel_rfl|fail)
  (hla:LEq (lite asg) la:=by first|(dsimp only [go_sem,seval,liteO,Option.map,List.map];exact .mk _)|fail) (hlb:LEq (lite body) lb:=by first|(dsimp only [go_sem,seval,liteO,Option.map,List.map];(try simp only [List.getElem?_toArray,List.getElem?_cons_succ,List.getElem?_cons_zero,Option.bind_some]);exact .mk _)|fail) :
  aC (cx.wp cx.pc q) N (.rangeFn f #[a,b] asg body) Q fr S:=by
 have hle:e≤ks.length:=by cases stop with|false=>exact Nat.le_of_eq (he.1 rfl)|true=>exact (he.2 rfl).2
 generalize hL0:ABox.loop fr N [a,b] asg body .ready none 0=L0
 generalize hLd:ABox.loop fr N [a,b] asg body .done (some .ret) 0=Ld
 have hI:=all_range (i:=S.length) hks (fun j=>A j++((if stop&&decide (j=e) then Ld else L0) :: .cells [.map m] 88::K j)) e stop he
  (fun j hj=>⟨by rw [List.getElem?_append_left (by rw [hl j hj];exact (List.getElem?_eq_some_iff.1 hB.bx).1)];exact (hA j hj).bx,by rw [List.getElem?_append_left (by rw [hl j hj];exact (List.getElem?_eq_some_iff.1 hB.mp).1)];exact (hA j hj).mp⟩)
  (fun j hj hjk=>by
   have hne:(stop&&decide (j=e))=false:=by rw [decide_eq_false (by omega),Bool.and_false]
   have hlj:=hl j (Nat.le_of_lt hj)
   simp only [hne,Bool.false_eq_true,if_false]
   refine rdY hL0.symm hLd.symm (by rw [List.getElem?_append_right (by omega),hlj,Nat.sub_self];rfl) rfl hps hna hnb hca hcb hla hlb fun Lb=>?_
   exact round L0 Ld Lb j hj hjk)
  (T:=S++[L0]) (by
   have:(stop&&decide (0=e))=false:=by
    cases stop with
    |false=>rfl
    |true=>rw [Bool.true_and,decide_eq_false];have:=(he.2 rfl).1;omega
   simp only [this,h0,k0,Bool.false_eq_true,if_false,List.append_assoc,List.cons_append,List.nil_append])
  ⟨by rw [List.getElem?_append_left (List.getElem?_eq_some_iff.1 hB.bx).1];exact hB.bx,by rw [List.getElem?_append_left (List.getElem?_eq_some_iff.1 hB.mp).1];exact hB.mp⟩
 simp only [decide_true,Bool.and_true] at hI
 have hle':=hl e (Nat.le_refl e)
 subst hL0 hLd
 cases stop with
 |false =>
  simp only [Bool.false_eq_true,if_false] at hI
  refine aC_rangeFnB (tag:=0) hf rfl hI (by rw [List.getElem?_append_right (by omega),hle',Nat.sub_self];rfl) (by intro h;cases h) ?_
  simp only [pendQ]
  rw [List.set_append_right _ _ (by omega),hle',Nat.sub_self]
  exact fin rfl _
 |true =>
  simp only [if_true] at hI
  refine aC_rangeFnB (tag:=0) hf rfl hI (by rw [List.getElem?_append_right (by omega),hle',Nat.sub_self];rfl) (by intro h;cases h) ?_
  simp only [pendQ]
  rw [List.set_append_right _ _ (by omega),hle',Nat.sub_self]
  exact finS rfl _
section
variable {N:Nat} {q:Nat→Option UL} {f:Operand} {a b:Nat} {asg body:Code} {Q:Post} {fr:Fr} {S:St} {cv m clk:Nat} {ks:Rs} {la lb:LC}
theorem rg_all (n:Nat) (hf:aEval (cx.wp cx.pc q) fr.get f = .fn (.func 52) [] [.ptr cv 0]) (hks:KsOk ks) (hB:AllB S cv m ks clk) (A K:Nat→St) (h0:A 0=S) (k0:K 0=[]) (hn:S.length=n) (hA:∀ j,j≤ks.length→(A j).length=n∧AllB (A j) cv m ks clk)
  (round:∀ (L0 Ld Lb:ABox) (j:Nat) (h:j<ks.length),aC (cx.wp cx.pc q) N la (fun x fr1 T1=>x = .normal∧T1[n]? = some L0 ∧
   aC (cx.wp cx.pc q) N lb (fun x _ T2=>T2[n]? = some Lb∧rEnd L0 Ld n (.bool true) (A (j+1)++(L0 :: .cells [.map m] 88::K (j+1))) x T2) fr1 (T1.set n Lb)) (putAll fr [a,b] [.int .i64 ks[j].1,.agg (rmC ks[j].2.1)]) (A j++(L0 :: .cells [.map m] 88::K j)))
  (fin:∀ L,Q .normal fr (A ks.length++(L :: .cells [.map m] 88::K ks.length)))
  (hps:([a,b].all fun k=>Nat.blt k N)=true:=by first|rfl|fail) (hna:noRF asg=true:=by first|kernel_rfl|fail) (hnb:noRF body=true:=by first|kernel_rfl|fail) (hca:codeOk (cx.wp cx.pc q) N asg=true:=by first|kernel_rfl|fail) (hcb:codeOk (cx.wp cx.pc q) N body=true:=by first|kernel_rfl|fail)
  (hla:LEq (lite asg) la:=by first|(dsimp only [go_sem,seval,liteO,Option.map,List.map];exact .mk _)|fail) (hlb:LEq (lite body) lb:=by first|(dsimp only [go_sem,seval,liteO,Option.map,List.map];(try simp only [List.getElem?_toArray,List.getElem?_cons_succ,List.getElem?_cons_zero,Option.bind_some]);exact .mk _)|fail) :
  aC (cx.wp cx.pc q) N (.rangeFn f #[a,b] asg body) Q fr S:=by
 subst hn
 exact rg_gen hf hks hB A K ks.length false ⟨fun _=>rfl,fun h=>(by cases h)⟩ h0 k0 (fun j hj=>(hA j hj).1) (fun j hj=>(hA j hj).2) (fun L0 Ld Lb j _ h=>by simp only [Bool.false_and,Bool.not_false,Bool.false_eq_true,if_false];exact round L0 Ld Lb j h) (fun _=>fin) (fun h=>(by cases h)) hps hna hnb hca hcb hla hlb
theorem rg_stop (n p:Nat) (hf:aEval (cx.wp cx.pc q) fr.get f = .fn (.func 52) [] [.ptr cv 0]) (hks:KsOk ks) (hB:AllB S cv m ks clk) (A K:Nat→St) (hp:p<ks.length) (h0:A 0=S) (k0:K 0=[]) (hn:S.length=n) (hA:∀ j,j≤p+1→(A j).length=n∧AllB (A j) cv m ks clk)
  (round:∀ (L0 Ld Lb:ABox) (j:Nat) (_:j<p) (h:j<ks.length),aC (cx.wp cx.pc q) N la (fun x fr1 T1=>x = .normal∧T1[n]? = some L0 ∧
   aC (cx.wp cx.pc q) N lb (fun x _ T2=>T2[n]? = some Lb∧rEnd L0 Ld n (.bool true) (A (j+1)++(L0 :: .cells [.map m] 88::K (j+1))) x T2) fr1 (T1.set n Lb)) (putAll fr [a,b] [.int .i64 ks[j].1,.agg (rmC ks[j].2.1)]) (A j++(L0 :: .cells [.map m] 88::K j)))
  (last:∀ (L0 Ld Lb:ABox),aC (cx.wp cx.pc q) N la (fun x fr1 T1=>x = .normal∧T1[n]? = some L0 ∧
   aC (cx.wp cx.pc q) N lb (fun x _ T2=>T2[n]? = some Lb∧rEnd L0 Ld n (.bool false) (A (p+1)++(Ld :: .cells [.map m] 88::K (p+1))) x T2) fr1 (T1.set n Lb)) (putAll fr [a,b] [.int .i64 ks[p].1,.agg (rmC ks[p].2.1)]) (A p++(L0 :: .cells [.map m] 88::K p)))
  (fin:∀ L,Q .ret fr (A (p+1)++(L :: .cells [.map m] 88::K (p+1))))
  (hps:([a,b].all fun k=>Nat.blt k N)=true:=by first|rfl|fail) (hna:noRF asg=true:=by first|kernel_rfl|fail) (hnb:noRF body=true:=by first|kernel_rfl|fail) (hca:codeOk (cx.wp cx.pc q) N asg=true:=by first|kernel_rfl|fail) (hcb:codeOk (cx.wp cx.pc q) N body=true:=by first|kernel_rfl|fail)
  (hla:LEq (lite asg) la:=by first|(dsimp only [go_sem,seval,liteO,Option.map,List.map];exact .mk _)|fail) (hlb:LEq (lite body) lb:=by first|(dsimp only [go_sem,seval,liteO,Option.map,List.map];(try simp only [List.getElem?_toArray,List.getElem?_cons_succ,List.getElem?_cons_zero,Option.bind_some]);exact .mk _)|fail) :
  aC (cx.wp cx.pc q) N (.rangeFn f #[a,b] asg body) Q fr S:=by
 subst hn
 refine rg_gen hf hks hB A K (p+1) true ⟨fun h=>(by cases h),fun _=>⟨by omega,by omega⟩⟩ h0 k0 (fun j hj=>(hA j hj).1) (fun j hj=>(hA j hj).2) (fun L0 Ld Lb j hj h=>?_) (fun h=>(by cases h)) (fun _=>fin) hps hna hnb hca hcb hla hlb
 rcases Nat.lt_or_ge j p with hjp|hjp
 ·have:¬ j+1=p+1:=by omega
  simp only [this,decide_false,Bool.and_false,Bool.not_false,Bool.false_eq_true,if_false];exact round L0 Ld Lb j hjp h
 ·have:j=p:=by omega
  subst this
  simp only [decide_true,Bool.and_true,Bool.not_true,if_true];exact last L0 Ld Lb
end
structure RsK (rs:Rs) (c:Nat):Prop where
 bo:BoOk rs c
 lg:∀ e∈rs,e.2.1.log.length≤1000000
 wf:∀ e∈rs,-9223372036854775808≤e.1∧e.1<9223372036854775808
 ln:rs.length≤1000000
 ni:(rs.map (·.2.1.inst)).Nodup
variable {S:St} {x a o last:Nat} {rs:Rs} {c:Nat}
theorem RsK.ks (hr:RsK rs c) (h:∀ e∈rs,e.2.1.Ok):KsOk (srt rs) :=
 ⟨srt_lt hr.bo.nd,fun e he=>h e ((srt_perm rs).mem_iff.1 he),fun e he=>hr.lg e ((srt_perm rs).mem_iff.1 he),fun e he=>hr.wf e ((srt_perm rs).mem_iff.1 he),by rw [srt_len];exact hr.ln⟩
theorem realm_find (h:RmsP S x a o last rs c) (hr:RsK rs c) {e:Int × Rm × Nat} (he:e∈rs):ACall cx 55 [.ptr x 0,.int .u64 e.2.1.inst] S (.tup [.int .i64 e.1,.bool true]) S:=by
 have hks:=hr.ks h.ok
 have ho:=h.lt
 have hAll:=fun R:St=>realm_all (h.more R) hr.bo hr.lg
 obtain ⟨p,hp,hpe⟩:=List.getElem_of_mem ((srt_perm rs).mem_iff.2 he)
 have hdif:∀ (j:Nat) (hj:j<p) (hjl:j<(srt rs).length),(srt rs)[j].2.1.inst≠e.2.1.inst:=by
  intro j hj hjl k
  have hn:((srt rs).map (·.2.1.inst)).Nodup:=((srt_perm rs).map _).nodup_iff.2 hr.ni
  have h1:((srt rs).map (·.2.1.inst))[j]? = ((srt rs).map (·.2.1.inst))[p]?:=by simp only [List.getElem?_map,List.getElem?_eq_getElem hjl,List.getElem?_eq_getElem hp,Option.map_some];rw [hpe,k]
  have:=(List.getElem?_inj (by simpa using hjl) hn).1 h1
  omega
 refine ACallP.same cxG (oQ lq55 ?_) (by omega) rfl
 refine st1 True.intro hAll ?_
 refine nS True.intro ?_
 have hst:∀ (j:Nat) (hj:j<(srt rs).length),((srt rs).take (j+1)).map (fun e:Int × Rm × Nat=>ABox.cells (rmC e.2.1) 37)=((srt rs).take j).map (fun e=>.cells (rmC e.2.1) 37)++[.cells (rmC (srt rs)[j].2.1) 37]:=fun j hj=>by
  rw [List.take_succ_eq_append_getElem hj];simp only [List.map_append,List.map_cons,List.map_nil]
 refine rg_stop (S.length+5) p (m:=S.length+3) (clk:=rs.length) (ks:=srt rs) (cv:=S.length+4) (ev @Nat.add_assoc) hks ⟨ev True.intro,ev True.intro⟩
  (fun j=>S++[.cells [.int .u64 e.2.1.inst] 31,.cells [.int .i64 (if j≤p then 0 else e.1)] 3,.cells [.bool (decide (p<j))] 4,.mpx (rmX (srt rs)) rs.length,.cells [.map (S.length+3)] 88])
  (fun j=>((srt rs).take j).map fun e=>.cells (rmC e.2.1) 37) hp (by simp) rfl (by simp) (fun j _=>⟨by simp,ev True.intro,ev True.intro⟩) (fun L0 Ld Lb j hj hjk=>?_) (fun L0 Ld Lb=>?_) (fun L=>?_)
 ·have hjp:j≤p:=by omega
  have hjp':j+1≤p:=by omega
  have hpj:¬ p<j:=by omega
  have hpj':¬ p<j+1:=by omega
  have hKl:(((srt rs).take j).map fun e:Int × Rm × Nat=>ABox.cells (rmC e.2.1) 37).length=j:=by simp;omega
  have hro:=hks.ok _ (List.getElem_mem hjk)
  have i1:=length_rmC hro
  have i2:=rm_one (srt rs)[j].2.1
  have i3:(rmC (srt rs)[j].2.1).take 103=rmC (srt rs)[j].2.1:=List.take_of_length_le (by omega)
  have i4:((rmC (srt rs)[j].2.1).take 1).headD .any = .int .u64 ((srt rs)[j].2.1.inst:Nat):=rfl
  have hq:¬ (((srt rs)[j].2.1.inst:Nat):Int)=(e.2.1.inst:Nat):=by have:=hdif j hj hjk;omega
  simp only [hjp,hjp',hpj,hpj',decide_false,if_true,hst j hjk]
  generalize ((srt rs).take j).map (fun e:Int × Rm × Nat=>ABox.cells (rmC e.2.1) 37)=K at *
  generalize (srt rs)[j].2.1.inst=n1 at *
  generalize rmC (srt rs)[j].2.1=R at *
  have F:=pk7 @i1 @i2 @i3 @i4 @o_put0 @hKl @hq
  refine nS F ?_
  refine st F ?_
  refine ⟨rfl,ev F,?_⟩
  refine nS F ?_
  refine st F ?_
  exact ⟨ev F,rEnd_n rfl (ev F)⟩
 ·have hpj':¬ p+1≤p:=by omega
  have hKl:(((srt rs).take p).map fun e:Int × Rm × Nat=>ABox.cells (rmC e.2.1) 37).length=p:=by simp;omega
  have hro:=hks.ok _ (List.getElem_mem hp)
  have i1:=length_rmC hro
  have i2:=rm_one (srt rs)[p].2.1
  have i3:(rmC (srt rs)[p].2.1).take 103=rmC (srt rs)[p].2.1:=List.take_of_length_le (by omega)
  have i4:((rmC (srt rs)[p].2.1).take 1).headD .any = .int .u64 ((srt rs)[p].2.1.inst:Nat):=rfl
  simp only [Nat.le_refl,Nat.lt_irrefl,hpj',Nat.lt_add_one,decide_true,decide_false,if_true,if_false,hst p hp]
  generalize ((srt rs).take p).map (fun e:Int × Rm × Nat=>ABox.cells (rmC e.2.1) 37)=K at *
  rw [hpe] at *
  generalize rmC e.2.1=R at *
  have F:=pk6 @i1 @i2 @i3 @i4 @o_put0 @hKl
  refine nS F ?_
  refine st F ?_
  refine ⟨rfl,ev F,?_⟩
  refine nS F ?_
  refine st F ?_
  exact ⟨ev F,rEnd_r rfl (ev F)⟩
 ·have hpj':¬ p+1≤p:=by omega
  simp only [hpj',Nat.lt_add_one,decide_true,if_false]
  refine st True.intro ?_
  simp (disch:=first|omega|(simp only [go_sem];omega)) only [go_sem,seval]
  exact ⟨_,rfl⟩
end
end Go.Am
end
