/- The chapter's table of operations; words as cells; num, known. -/
import Derived.Test.YtodiaabcaahnjaaGreatDoorTryzSx
import Derived.Test.YtodiaabcaahnjaaGreatDoorAmFreshZ
import Derived.Test.YtodiaabcaahnjaaGreatDoorAmSimp
import Derived.Test.YtodiaabcaahnjaaGreatDoorAmYield
import Derived.Test.YtodiaabcaahnjaaGreatDoorAmWalkB
import Derived.Test.YtodiaabcaahnjaaGreatDoorTryzSh
import Derived.Lib.Walk
import Derived.Lib.ItoaMem
import Derived.WalkKit
import Derived.BigCall
import Derived.BigGuard
set_option linter.unusedVariables false
set_option linter.unusedSimpArgs false
section
namespace Go.Am
open Go Go.Proofs
set_option maxHeartbeats 4000000
set_option maxRecDepth 100000
attribute [local irreducible] aC aL thenQ blockQ scopeQ ALoop AWp
theorem drop_app {α:Type} {a b:List α} {n:Nat} (h:a.length=n):(a++b).drop n=b:=by subst h;simp
theorem take_app {α:Type} {a b:List α} {n:Nat} (h:a.length=n):(a++b).take n=a:=by subst h;simp
theorem take_all {α:Type} {a:List α} {n:Nat} (h:a.length≤n):a.take n=a:=List.take_of_length_le h
attribute [go_sem] List.getD_cons_zero List.getD_cons_succ
theorem skbs_nil:skbs [] []=true:=rfl
theorem skbs_cons (x y:AVal) (a b:List AVal):skbs (x::a) (y::b)=(skb x y&&skbs a b):=rfl
theorem skb_int (k:IntKind) (a b:Int):skb (.int k a) (.int k b)=true:=by simp [skb]
attribute [go_sem] skbs_nil skbs_cons skb_int Bool.and_self List.drop_replicate List.replicate_zero
attribute [go_sem] drop_app take_app take_all List.set_cons_zero List.set_cons_succ List.take_succ_cons List.take_zero List.drop_succ_cons List.drop_zero
attribute [go_sem] ne_eq not_true_eq_false or_false or_self if_false
def wl (ws:List Nat):List AVal:=ws.map fun (w:Nat)=>.int .u64 ((w:Nat):Int)
@[simp] theorem length_wl (ws:List Nat):(wl ws).length=ws.length:=by simp [wl]
theorem getD_wl (ws:List Nat) (n:Nat) (d:AVal) (h:n<ws.length):(wl ws).getD n d = .int .u64 ((ws.getD n 0:Nat):Int):=by simp [wl,List.getD,h]
@[simp] theorem closed_wl (ws:List Nat):(∀ x∈wl ws,Closed x)↔True:=⟨fun _=>trivial,fun _ x hx=>by obtain ⟨b,_,rfl⟩:=List.mem_map.1 hx;simp⟩
@[simp] theorem plain_wl (ws:List Nat):(∀ x∈wl ws,Plain x)↔True:=⟨fun _=>trivial,fun _ x hx=>by obtain ⟨b,_,rfl⟩:=List.mem_map.1 hx;exact .int _ _⟩
theorem cons_wl (a:Nat) (l:List Nat):wl (a::l) = .int .u64 ((a:Nat):Int)::wl l:=rfl
theorem bels_wl (n:Nat) (ws:List Nat):bels n (wl ws)=true:=bels_iff.2 fun x hx=>by obtain ⟨b,_,rfl⟩:=List.mem_map.1 hx;rfl
theorem one_wl (l:List Nat):(∀ c∈wl l,c.one=true)↔True:=⟨fun _=>trivial,fun _ c hc=>by obtain ⟨b,_,rfl⟩:=List.mem_map.1 hc;rfl⟩
theorem wl_take6 {l:List Nat} (h:l.length=6):List.take 6 (wl l)=wl l:=List.take_of_length_le (by rw [length_wl];omega)
theorem wl_load {l:List Nat} {k:Nat} (h:k<l.length):(List.take 1 (List.drop k (wl l))).headD .any = .int .u64 ((l.getD k 0:Nat):Int):=by
 have h':k<(wl l).length:=by rw [length_wl];exact h
 rw [List.drop_eq_getElem_cons h']
 simp [wl,List.getD,h]
theorem cw_load {l:List Nat} {k:Nat} {c:AVal} (h:k<l.length):(List.take 1 (List.drop (1+k) (c::wl l))).headD .any = .int .u64 ((l.getD k 0:Nat):Int):=by
 rw [Nat.add_comm,List.drop_succ_cons];exact wl_load h
theorem wl_put {l:List Nat} {k v:Nat}:putCells (wl l) k [.int .u64 ((v:Nat):Int)]=wl (l.set k v):=by
 show (wl l).set k _=_
 simp [wl,List.map_set]
theorem cw_put {l:List Nat} {k v:Nat} {c:AVal}:putCells (c::wl l) (1+k) [.int .u64 ((v:Nat):Int)]=c::wl (l.set k v):=by
 rw [Nat.add_comm,putCells_succ,wl_put]
theorem wl_over {l m:List Nat} (h:l.length=m.length):putCells (wl m) 0 (wl l)=wl l:=by
 rw [putCells_eq _ _ _ (by rw [length_wl,length_wl];omega),length_wl,h,List.drop_eq_nil_of_le (by rw [length_wl];omega)]
 simp
theorem wl_store6 {l:List Nat} (h:l.length=6):putCells [.int .u64 0,.int .u64 0,.int .u64 0,.int .u64 0,.int .u64 0,.int .u64 0] 0 (wl l)=wl l:=wl_over (m:=[0,0,0,0,0,0]) h
attribute [go_sem] length_wl getD_wl one_wl wl_take6 wl_load cw_load wl_put cw_put wl_store6
theorem PLC_0:placeOf cx.T ⟨(.struct #[⟨ "Op", 24,0,false, "", "", 0⟩,⟨ "Args", 26,1,false, "", "", 8⟩]),7,56,[(.int .i64 0),(.int .u64 0),(.int .u64 0),(.int .u64 0),(.int .u64 0),(.int .u64 0),(.int .u64 0)]⟩ 0=some (0,1):=by kernel_rfl
theorem PLC_1:placeOf cx.T ⟨(.struct #[⟨ "Op", 24,0,false, "", "", 0⟩,⟨ "Args", 26,1,false, "", "", 8⟩]),7,56,[(.int .i64 0),(.int .u64 0),(.int .u64 0),(.int .u64 0),(.int .u64 0),(.int .u64 0),(.int .u64 0)]⟩ 1=some (1,6):=by kernel_rfl
attribute [go_sem] PLC_0 PLC_1 Nat.mul_one
def OPS:List (List UInt8 × Nat):=[([100,101,108,101,103,97,116,101],1),([117,110,100,101,108,101,103,97,116,101],1),([114,101,97,108,109],3),([97,99,116,105,118,97,116,101],1),([107,105,108,108],1),([101,110,100],1),([116,97,98,108,101],4),([117,110,116,97,98,108,101],3),([102,111,108,100],3),([100,97,116,97],4),([122,101,114,111],3),([100,101,115,116,114,111,121],2),([115,104,97,114,101],3),([117,110,115,104,97,114,101],2),([114,101,99],3),([117,110,114,101,99],1),([101,110,116,101,114],3),([101,120,112,111,114,116],3),([105,109,112,111,114,116],5),([108,111,111,107],2),([114,111,119],1)]
def cnm (op:Int):List UInt8:=if 1≤op∧op≤21 then (OPS.getD (op.toNat-1) ([],0)).1 else []
def car (op:Int):Nat:=if 1≤op∧op≤21 then (OPS.getD (op.toNat-1) ([],0)).2 else 0
def cm (op:Int) (w:List UInt8) (a:Int):AVal × AVal:=(.int .i64 op,.agg [.str w,.int .i64 a])
def TABLE:List (AVal × AVal):=[cm 1 [100,101,108,101,103,97,116,101] 1,cm 2 [117,110,100,101,108,101,103,97,116,101] 1,cm 3 [114,101,97,108,109] 3,cm 4 [97,99,116,105,118,97,116,101] 1,cm 5 [107,105,108,108] 1,cm 6 [101,110,100] 1,cm 7 [116,97,98,108,101] 4,cm 8 [117,110,116,97,98,108,101] 3,cm 9 [102,111,108,100] 3,cm 10 [100,97,116,97] 4,cm 11 [122,101,114,111] 3,cm 12 [100,101,115,116,114,111,121] 2,cm 13 [115,104,97,114,101] 3,cm 14 [117,110,115,104,97,114,101] 2,cm 15 [114,101,99] 3,cm 16 [117,110,114,101,99] 1,cm 17 [101,110,116,101,114] 3,cm 18 [101,120,112,111,114,116] 3,cm 19 [105,109,112,111,114,116] 5,cm 20 [108,111,111,107] 2,cm 21 [114,111,119] 1]
theorem op_cases (op:Int):(op=1∨op=2∨op=3∨op=4∨op=5∨op=6∨op=7∨op=8∨op=9∨op=10∨op=11∨op=12∨op=13∨op=14∨op=15∨op=16∨op=17∨op=18∨op=19∨op=20∨op=21)∨(op<1∨21<op):=by omega
theorem car_fin:∀ i:Fin 21,1≤car ((i.val:Int)+1)∧car ((i.val:Int)+1)≤5:=by decide +kernel
theorem car_in {op:Int} (h:1≤op∧op≤21):1≤car op∧car op≤5:=by
 have:=car_fin ⟨(op-1).toNat,by omega⟩
 rw [show ((((op-1).toNat:Nat):Int)+1)=op by omega] at this
 exact this
theorem car_le (op:Int):car op≤5:=by
 by_cases h:1≤op∧op≤21
 ·exact (car_in h).2
 ·unfold car;rw [if_neg h];omega
theorem cnm_fin:∀ i:Fin 21,3≤(cnm ((i.val:Int)+1)).length∧(cnm ((i.val:Int)+1)).length≤10∧(32:UInt8) ∉ cnm ((i.val:Int)+1)∧(10:UInt8) ∉ cnm ((i.val:Int)+1):=by decide +kernel
theorem cnm_in {op:Int} (h:1≤op∧op≤21):3≤(cnm op).length∧(cnm op).length≤10∧(32:UInt8) ∉ cnm op∧(10:UInt8) ∉ cnm op:=by
 have:=cnm_fin ⟨(op-1).toNat,by omega⟩
 rw [show ((((op-1).toNat:Nat):Int)+1)=op by omega] at this
 exact this
theorem cnm_out {op:Int} (h:¬ (1≤op∧op≤21)):cnm op=[]:=if_neg h
theorem car_out {op:Int} (h:¬ (1≤op∧op≤21)):car op=0:=if_neg h
theorem cnm_injf:∀ i j:Fin 21,cnm ((i.val:Int)+1)=cnm ((j.val:Int)+1)→i=j:=by decide +kernel
theorem cnm_inj {a b:Int} (ha:1≤a∧a≤21) (hb:1≤b∧b≤21) (h:cnm a=cnm b):a=b:=by
 have:=cnm_injf ⟨(a-1).toNat,by omega⟩ ⟨(b-1).toNat,by omega⟩ (by
  rw [show ((((a-1).toNat:Nat):Int)+1)=a by omega,show ((((b-1).toNat:Nat):Int)+1)=b by omega];exact h)
 have:=congrArg Fin.val this
 simp only at this
 omega
theorem call_table (S:St):ACall cx 69 [] S (.map S.length) (S++[.mpx TABLE 21]) :=
 xACallZ_ok tabOk 1000 (e:=fe69) (by kernel_rfl) (Nat.zero_le _) (i:=0) (by kernel_rfl) (by kernel_rfl) rfl S
theorem tbl_look (op:Int):lookV (.int .i64 op) (tagE TABLE) (.agg [.str [],.int .i64 0]) = .agg [.str (cnm op),.int .i64 (car op:Nat)]:=by
 rcases op_cases op with (rfl|rfl|rfl|rfl|rfl|rfl|rfl|rfl|rfl|rfl|rfl|rfl|rfl|rfl|rfl|rfl|rfl|rfl|rfl|rfl|rfl)|h
 iterate 21 rfl
 rw [cnm_out (by omega),car_out (by omega)]
 rw [lookV_eq]
 have n:∀ k:Int,1≤k→k≤21→(op==k)=false:=fun k h1 h2=>by simp;omega
 simp [TABLE,tagE,cm,aeqs,aeq,AVal.cells,n,show op≠1 by omega,show op≠2 by omega,show op≠3 by omega,show op≠4 by omega,show op≠5 by omega,show op≠6 by omega,show op≠7 by omega,show op≠8 by omega,show op≠9 by omega,show op≠10 by omega,show op≠11 by omega,show op≠12 by omega,show op≠13 by omega,show op≠14 by omega,show op≠15 by omega,show op≠16 by omega,show op≠17 by omega,show op≠18 by omega,show op≠19 by omega,show op≠20 by omega,show op≠21 by omega]
theorem tbl_find (op:Int):(findK (.int .i64 op) (tagE TABLE)).isSome=decide (1≤op∧op≤21):=by
 rcases op_cases op with (rfl|rfl|rfl|rfl|rfl|rfl|rfl|rfl|rfl|rfl|rfl|rfl|rfl|rfl|rfl|rfl|rfl|rfl|rfl|rfl|rfl)|h
 iterate 21 rfl
 rw [decide_eq_false (by omega)]
 have n:∀ k:Int,1≤k→k≤21→(op==k)=false:=fun k h1 h2=>by simp;omega
 simp [findK,TABLE,tagE,cm,aeqs,aeq,AVal.cells,n,show op≠1 by omega,show op≠2 by omega,show op≠3 by omega,show op≠4 by omega,show op≠5 by omega,show op≠6 by omega,show op≠7 by omega,show op≠8 by omega,show op≠9 by omega,show op≠10 by omega,show op≠11 by omega,show op≠12 by omega,show op≠13 by omega,show op≠14 by omega,show op≠15 by omega,show op≠16 by omega,show op≠17 by omega,show op≠18 by omega,show op≠19 by omega,show op≠20 by omega,show op≠21 by omega]
theorem tbl_one (op:Int):oneX (.int .i64 op) TABLE=true:=by
 rcases op_cases op with (rfl|rfl|rfl|rfl|rfl|rfl|rfl|rfl|rfl|rfl|rfl|rfl|rfl|rfl|rfl|rfl|rfl|rfl|rfl|rfl|rfl)|h
 iterate 21 rfl
 have n:∀ k:Int,1≤k→k≤21→(op==k)=false:=fun k h1 h2=>by simp;omega
 simp [oneX,TABLE,cm,aeqs,aeq,AVal.cells,n,show op≠1 by omega,show op≠2 by omega,show op≠3 by omega,show op≠4 by omega,show op≠5 by omega,show op≠6 by omega,show op≠7 by omega,show op≠8 by omega,show op≠9 by omega,show op≠10 by omega,show op≠11 by omega,show op≠12 by omega,show op≠13 by omega,show op≠14 by omega,show op≠15 by omega,show op≠16 by omega,show op≠17 by omega,show op≠18 by omega,show op≠19 by omega,show op≠20 by omega,show op≠21 by omega]
theorem tbl_keys (op:Int):keysOk cx 24 (.int .i64 op) (tagE TABLE):=by
 have h:((tagE TABLE).all fun e=>keyFit cx 24 e.1)=true:=by kernel_rfl
 exact ⟨by kernel_rfl,fun e he=>List.all_eq_true.1 h e he⟩
theorem look_tbl (p:FuncId→Bool) (q:Nat→Option UL) {S:St} {b:Nat} (op:Int) (hS:boxX S[b]? = some TABLE) :
  aLookup (cx.wp p q) S 125 (.map b) (.int .i64 op) false=some ⟨keysOk cx 24 (.int .i64 op) (tagE TABLE)∧oneX (.int .i64 op) TABLE=true,.agg [.str (cnm op),.int .i64 (car op:Nat)],S⟩:=by
 rw [aLookup_X (C:=cx.wp p q) (t:=125) (kt:=24) (et:=155) (i:=ti125) (j:=ti155) T125 rfl T155 hS,← tbl_look op]
 rfl
theorem look_tbl2 (p:FuncId→Bool) (q:Nat→Option UL) {S:St} {b:Nat} (op:Int) (hS:boxX S[b]? = some TABLE) :
  aLookup (cx.wp p q) S 125 (.map b) (.int .i64 op) true=some ⟨keysOk cx 24 (.int .i64 op) (tagE TABLE)∧oneX (.int .i64 op) TABLE=true,.tup [.agg [.str (cnm op),.int .i64 (car op:Nat)],.bool (decide (1≤op∧op≤21))],S⟩:=by
 rw [aLookup_X (C:=cx.wp p q) (t:=125) (kt:=24) (et:=155) (i:=ti125) (j:=ti155) T125 rfl T155 hS,← tbl_look op,← tbl_find op]
 rfl
end Go.Am
end
section
namespace Go.Am
open Go Go.RowKit Go.Sort Go.Lib Go.Proofs
theorem holds_zero0 (w:World) (T:TypeId) (nd:Nat) (hs:nd≤24):Holds (fun (b:UInt8)=>Value.int .u8 (b.toNat:Int)) (w.alloc (.cells Lib.zeros24 T)) w.heap.size 0 (Array.replicate nd (0:UInt8)):=fun j hj=>by
 have hj':j<nd:=by simpa using hj
 refine ⟨?_,World.frozen?_alloc_new _ _ _ _⟩
 rw [World.cell?_alloc_new,Nat.zero_add,Lib.zeros24_at _ (by omega),getElem!_pos _ j hj]
 simp
theorem fin_pos0 (w:World) (o:Obj) (dk:Array UInt8) (k:Nat):∃ os,(putRow (fun (b:UInt8)=>Value.int .u8 (b.toNat:Int)) (w.alloc o) w.heap.size 0 dk).drewN k=Sort.grow (w.drewN k) os:=by
 rw [alloc_eq_grow]
 obtain ⟨os',_,e⟩:=putRow_grow_new (fun (b:UInt8)=>Value.int .u8 (b.toNat:Int)) w #[o] w.heap.size 0 dk (Nat.le_refl _)
 exact ⟨os',by rw [e];rfl⟩
set_option maxHeartbeats 6400000 in
set_option maxRecDepth 100000 in
theorem fmt_inner (u:Nat) (hu64:u<18446744073709551616) (w:World) (htab:Lib.TabIs Tryz.prog w "internal/strconv.uint64pow10" .u64 Lib.pow10Tab) :
  Calls Tryz.prog 115 #[.int .u64 u,.int .i64 10] w fun e w'=>e = .returned (.string ⟨(Lib.decDigits u).toArray⟩)∧∃ k os,w'=Sort.grow (w.drewN k) os:=by
 have mixed:Tryz.prog.follows Departure.mixedOrders=true:=by kernel_rfl
 have t_0:=Tryz.underlying0;have a_0:=Tryz.isAgg0;have z_0:=Tryz.sizeOf0;have v_0:=Tryz.zeroValue0
 have t_1:=Tryz.underlying3;have a_1:=Tryz.isAgg3;have z_1:=Tryz.sizeOf3;have v_1:=Tryz.zeroValue3
 have t_2:=Tryz.underlying4;have a_2:=Tryz.isAgg4;have z_2:=Tryz.sizeOf4;have v_2:=Tryz.zeroValue4
 have t_3:=Tryz.underlying5;have a_3:=Tryz.isAgg5;have z_3:=Tryz.sizeOf5;have v_3:=Tryz.zeroValue5
 have t_4:=Tryz.underlying9;have a_4:=Tryz.isAgg9;have z_4:=Tryz.sizeOf9;have v_4:=Tryz.zeroValue9
 have t_5:=Tryz.underlying25;have a_5:=Tryz.isAgg25;have z_5:=Tryz.sizeOf25;have v_5:=Tryz.zeroValue25
 have t_6:=Tryz.underlying29;have a_6:=Tryz.isAgg29;have z_6:=Tryz.sizeOf29;have v_6:=Tryz.zeroValue29
 have t_7:=Tryz.underlying178;have a_7:=Tryz.isAgg178;have z_7:=Tryz.sizeOf178;have v_7:=Tryz.zeroValue178
 have e_small:∀ args w,(callFunc 130 args).run Tryz.prog w = .ok (.enter 130 args) w:=enters_of Tryz.func130 (by kernel_rfl) rfl
 have e_num:∀ args w,(callFunc 131 args).run Tryz.prog w = .ok (.enter 131 args) w:=enters_of Tryz.func131 (by kernel_rfl) rfl
 have e_fmt:∀ args w,(callFunc 132 args).run Tryz.prog w = .ok (.enter 132 args) w:=enters_of Tryz.func132 (by kernel_rfl) rfl
 have hfn:=Tryz.func115
 have c_small:=Tryz.internal_strconv_small
 have c_num:=Tryz.internal_strconv_numDigits
 have c_fmt:=Tryz.internal_strconv_formatBase10
 have hal:Tryz.prog.arrayLen 178=24:=by kernel_rfl
 generalize Tryz.prog=P at *
 by_cases hs:u<100
 ·go_enter hfn,Tryz.ntmps115
  go_wp2_with (go_at_fn 130;refine (c_small u hs _).mono ?_;rintro e w' ⟨rfl,rfl⟩)
  go_ret
  exact ⟨rfl,0,#[],by simp [World.drewN_zero]⟩
 ·have hu1:1≤u:=by omega
  have hnd20:Lib.nDigits u≤20:=by have:=Lib.numDigits_eq u hu1 hu64;split at this<;>omega
  have hb3:Lib.nDigits u≤23:=by omega
  have hsl1:∀ W,(Instr.sliceAt 178 (.pointer (some ⟨w.heap.size,0,none⟩)) none (some (.int .i64 (Lib.nDigits u:Int))) none).run P W = .ok (.slice (some ⟨w.heap.size,0,none⟩) (Lib.nDigits u) 24) W:=fun W=>by
   rw [run_sliceAt_array_h W 178 ⟨w.heap.size,0,none⟩ (by simp [Program.arrayLen,Program.elem,t_7]) .i64 (Lib.nDigits u:Int) (by omega) (by rw [hal];omega)]
   go_simp
  have hH0:=holds_zero0 w 178 (Lib.nDigits u) (by omega)
  have hfmt:=c_fmt w.heap.size 0 24 u (Array.replicate (Lib.nDigits u) 0) (w.alloc (.cells Lib.zeros24 178)) hH0 (by rw [Array.size_replicate];exact Lib.lt_pow_nDigits u) hu64 (by rw [Array.size_replicate];omega)
  rw [Array.size_replicate] at hfmt
  have HH0:=Lib.hid hH0
  clear hH0 hal
  go_enter hfn,Tryz.ntmps115
  go_wp2_with (first
   |(go_at_fn 131;refine (c_num u hu1 hu64 _ (Lib.tabIs_alloc htab _)).mono ?_;rintro e w' ⟨rfl,rfl⟩))
  go_at_fn 132
  refine hfmt.mono ?_
  rintro e w' ⟨rfl,k,v',dk,rfl,hF⟩
  have hcv:(convert 29 9 (.slice (some ⟨w.heap.size,0,none⟩) (Lib.nDigits u) 24)).run P ((putRow (fun (b:UInt8)=>Value.int .u8 (b.toNat:Int)) (w.alloc (.cells Lib.zeros24 178)) w.heap.size 0 dk).drewN k) = .ok (.string ⟨(Lib.decDigits u).toArray⟩) ((putRow (fun (b:UInt8)=>Value.int .u8 (b.toNat:Int)) (w.alloc (.cells Lib.zeros24 178)) w.heap.size 0 dk).drewN k):=by
   have h:=run_convert_bytes_back (P:=P) ((putRow (fun (b:UInt8)=>Value.int .u8 (b.toNat:Int)) (w.alloc (.cells Lib.zeros24 178)) w.heap.size 0 dk).drewN k) 29 9 5 ⟨w.heap.size,0,none⟩ 24 (Lib.decDigits u) t_6 t_3 t_4 (fun j hj=>by
    rw [Lib.row_is_numeral hF j hj,Lib.add_plain,World.cell?_drewN]
    exact cell?_putRow (fun (b:UInt8)=>Value.int .u8 (b.toNat:Int)) _ w.heap.size 0 _ dk HH0.out (by rw [hF.size,Array.size_replicate]) j (by rw [hF.size];rw [Lib.decDigits_length] at hj;exact hj))
   rw [Lib.decDigits_length] at h
   exact h
  go_wp2
  go_ret
  obtain ⟨os,eo⟩:=fin_pos0 w (.cells Lib.zeros24 178) dk k
  exact ⟨rfl,k,os,eo⟩
theorem callable_fmt:∃ fn,cx.P.funcs[115]? = some fn∧fn.body.isSome=true∧(fn.name == "runtime.NumGoroutine")=false:=callable_of Tryz.func115 (by kernel_rfl) (by kernel_rfl)
theorem a_fmt_inner (u:Nat) (hu:u<18446744073709551616):APure cx 115 [.int .u64 ((u:Nat):Int),.int .i64 10] (.str (Lib.decDigits u)) :=
 apure_shelf (vs:=[.int .u64 u,.int .i64 10]) callable_fmt rfl fun w im0 hG=>by
  have ht:Lib.TabIs Tryz.prog w "internal/strconv.uint64pow10" .u64 Lib.pow10Tab:=GL.tab (E:=env0 w im0) (by kernel_rfl) (hG 3 _ rfl)
  refine (fmt_inner u hu w ht).mono fun e w' h=>?_
  obtain ⟨rfl,k,os,rfl⟩:=h
  exact ⟨_,rfl,grown_grow w k os,.str _ _ rfl⟩
set_option maxHeartbeats 4000000
set_option maxRecDepth 100000
attribute [local irreducible] aC aL thenQ blockQ scopeQ ALoop AWp
theorem a_fmt (u:Nat) (hu:u<18446744073709551616):APure cx 97 [.int .u64 ((u:Nat):Int),.int .i64 10] (.str (Lib.decDigits u)):=by
 have h:=a_fmt_inner u hu
 refine pure_fnK cxOk Tryz.func97 (fun _=>false) (fun _=>none) (by kernel_rfl) (by dsimp only [Tryz.f97,go_sem,seval,liteO,Option.map,List.map];exact .mk _) ?_
 dsimp only [Tryz.f97,frame0,List.zipIdx,List.map,Nat.reduceAdd]
 try simp only [List.getElem?_toArray,List.getElem?_cons_succ,List.getElem?_cons_zero,Option.bind_some]
 repeat' (first|refine aC_seq ?_|refine aC_reg rfl ?_|refine aC_ret ?_|refine thenQ_normal ?_|refine aL_nil ?_|(apply aL_step;(·exact True.intro);(iterate 2 (·simp (disch:=omega) only [go_sem,seval]<;>with_reducible rfl));(·simp only [go_sem]<;>with_reducible rfl))|(apply aL_pK cxG (h);(iterate 2 (·simp (disch:=omega) only [go_sem,seval]<;>with_reducible rfl));(·simp only [go_sem]<;>with_reducible rfl);(·simp))|fail)
 all_goals try (first|exact True.intro|exact not_false|omega|(simp (disch:=omega) only [go_sem,seval]<;>omega))
 all_goals try (simp (disch:=omega) only [go_sem,seval])
 all_goals try simp
end Go.Am
end
