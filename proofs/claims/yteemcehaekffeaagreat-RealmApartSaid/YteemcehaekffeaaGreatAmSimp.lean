/- The abstract layer: laws on byte lists and numbers that the walk's steps go by. -/
import Derived.Test.YteemcehaekffeaaGreatAmWalk
import Derived.IntWalk
set_option linter.unusedVariables false
set_option linter.unusedSimpArgs false
namespace Go.Am
open Go
@[simp] theorem length_bl (l:List UInt8):(bl l).length=l.length:=by simp [bl]
theorem getD_bl (l:List UInt8) (n:Nat) (d:AVal) (h:n<l.length):(bl l).getD n d=bv (l.getD n 0):=by simp [bl,List.getD,h]
theorem take_bl (n:Nat) (l:List UInt8):(bl l).take n=bl (l.take n):=by simp [bl]
theorem drop_bl (n:Nat) (l:List UInt8):(bl l).drop n=bl (l.drop n):=by simp [bl]
theorem append_bl (l k:List UInt8):bl l++bl k=bl (l++k):=by simp [bl]
theorem append_bl1 (l:List UInt8) (b:UInt8):bl l++[.int .u8 (b.toNat:Int)]=bl (l++[b]):=by simp [bl,bv]
theorem append_bl2 (l:List UInt8) (b c:UInt8):bl l++[.int .u8 (b.toNat:Int),.int .u8 (c.toNat:Int)]=bl (l++[b,c]):=by simp [bl,bv]
theorem cells_int (k:IntKind) (n:Int):(AVal.int k n).cells=[.int k n]:=rfl
theorem cells_bv (b:UInt8):(bv b).cells=[.int .u8 (b.toNat:Int)]:=rfl
theorem cells_str (s:List UInt8):(AVal.str s).cells=[.str s]:=rfl
theorem cells_bool (b:Bool):(AVal.bool b).cells=[.bool b]:=rfl
theorem cells_sl (sz:Nat) (nl:Bool) (xs:List AVal) (t:Tag):(AVal.sl sz nl xs t).cells=[.sl sz nl xs t]:=rfl
theorem cells_agg (cs:List AVal):(AVal.agg cs).cells=cs:=rfl
theorem cells_ptr (i o:Nat):(AVal.ptr i o).cells=[.ptr i o]:=rfl
theorem cells_ifc (t:TypeId) (v:AVal):(AVal.ifc t v).cells=[.ifc t v]:=rfl
theorem cells_nilifc:AVal.nilifc.cells=[.nilifc]:=rfl
theorem cells_nilp:AVal.nilp.cells=[.nilp]:=rfl
theorem cells_fn (f:Fn) (a b:List AVal):(AVal.fn f a b).cells=[.fn f a b]:=rfl
theorem cells_nilfn:AVal.nilfn.cells=[.nilfn]:=rfl
theorem beq_decide {α:Type} [BEq α] [LawfulBEq α] [DecidableEq α] (a b:α):(a==b)=decide (a=b):=by
 by_cases h:a=b<;>simp [h]
theorem bne_decide {α:Type} [BEq α] [LawfulBEq α] [DecidableEq α] (a b:α):(a != b)=decide (¬ a=b):=by
 by_cases h:a=b<;>simp [h,bne]
theorem not_decide' {p:Prop} [Decidable p]:(!decide p)=decide (¬ p):=by by_cases h:p<;>simp [h]
theorem okc_int (k:IntKind) (n:Int):(AVal.int k n).okc↔True:=⟨fun _=>trivial,fun _ c hc=>by simp only [AVal.cells,List.mem_singleton] at hc;subst hc;rfl⟩
section
variable {C:Cx}
theorem aEval_tmp (g:Nat→AVal) (t:Nat):aEval C g (.tmp t)=g t:=rfl
theorem aEval_const (g:Nat→AVal) (v:Value):aEval C g (.const v)=ofConst v:=rfl
theorem aEval_global (g:Nat→AVal) (t:Nat):aEval C g (.global t)=(C.G t).getD .any:=rfl
theorem aEval_func (g:Nat→AVal) (t:Nat):aEval C g (.func t) = .fn (.func t) [] []:=rfl
theorem get_hit (k:Nat) (v:AVal) (r:Fr):Fr.get ((k,v)::r) k=v:=by simp [Fr.get]
theorem get_miss {k t:Nat} (v:AVal) (r:Fr) (h:¬ t=k):Fr.get ((k,v)::r) t=Fr.get r t:=by simp [Fr.get,h]
theorem get_nil (t:Nat):Fr.get [] t = .any:=rfl
def wantV (v:AVal) (w:Bool):Option Bool:=match v with
 |.bool b=>some (b==w)
 |.raw v=>match v with
  |.tuple _=>some false
  |_=>none
 |_=>none
theorem wantL_some (d:Nat) (w:Bool) (fr:Fr):wantL (some (some d,w)) fr=wantV (fr.get d) w:=rfl
theorem wantV_T (b:Bool):wantV (.bool b) true=some b:=by simp [wantV]
theorem wantV_F (b:Bool):wantV (.bool b) false=some (!b):=by simp [wantV]
theorem wantV_raw (w:Bool):wantV (.raw undef) w=some false:=rfl
attribute [go_sem] wantL_some wantV_T wantV_F wantV_raw Bool.not_true Bool.not_false Bool.not_not decide_true decide_false
theorem toNat_p1 (m:Nat):((m:Int)+1).toNat=m+1:=by omega
theorem toNat_p2 (m:Nat):((m:Int)+2).toNat=m+2:=by omega
theorem toNat_p4 (m:Nat):((m:Int)+4).toNat=m+4:=by omega
theorem toNat_p8 (m:Nat):((m:Int)+8).toNat=m+8:=by omega
attribute [go_sem] List.length_drop List.length_take List.length_append
attribute [go_sem] toNat_p1 toNat_p2 toNat_p4 toNat_p8
theorem bdpos_none:Bd.pos none↔True:=⟨fun _=>trivial,fun _=>trivial⟩
theorem bdpos_some (k:IntKind) (n:Int):Bd.pos (some (k,n))↔0≤n:=Iff.rfl
theorem bdat_none (d:Nat):Bd.at none d=d:=rfl
theorem bdat_some (k:IntKind) (n:Int) (d:Nat):Bd.at (some (k,n)) d=n.toNat:=rfl
theorem take_drop_all {α:Type} (l:List α) (m:Nat):(l.drop m).take (l.length-m)=l.drop m:=by rw [← List.length_drop,List.take_length]
attribute [go_sem] bdpos_none bdpos_some bdat_none bdat_some take_drop_all List.take_length List.drop_drop List.length_map false_or Option.isSome_some Option.isSome_none eq_self
theorem toNat_8k (k:Nat):(8*(k:Int)).toNat=8*k:=by omega
attribute [go_sem] toNat_8k
theorem min_l {a b:Nat} (h:a≤b):min a b=a:=Nat.min_eq_left h
theorem min_r {a b:Nat} (h:b≤a):min a b=b:=Nat.min_eq_right h
attribute [go_sem] min_l min_r
theorem one_int (k:IntKind) (n:Int):(AVal.int k n).one=true:=rfl
theorem one_bool (b:Bool):(AVal.bool b).one=true:=rfl
theorem one_str (s:List UInt8):(AVal.str s).one=true:=rfl
theorem one_nilp:(AVal.nilp).one=true:=rfl
theorem one_ptr (i o:Nat):(AVal.ptr i o).one=true:=rfl
theorem one_cptr (c:List AVal):(AVal.cptr c).one=true:=rfl
theorem one_sl (sz:Nat) (nl:Bool) (xs:List AVal) (t:Tag):(AVal.sl sz nl xs t).one=true:=rfl
theorem one_view (i o n c:Nat):(AVal.view i o n c).one=true:=rfl
theorem one_nilmap:(AVal.nilmap).one=true:=rfl
theorem one_map (i:Nat):(AVal.map i).one=true:=rfl
theorem one_fn (f:Fn) (a b:List AVal):(AVal.fn f a b).one=true:=rfl
theorem one_nilfn:(AVal.nilfn).one=true:=rfl
theorem one_ifc (t:TypeId) (v:AVal):(AVal.ifc t v).one=true:=rfl
theorem one_nilifc:(AVal.nilifc).one=true:=rfl
theorem putCells_nil (bs:List AVal) (k:Nat):putCells bs k []=bs:=rfl
theorem putCells_succ (x:AVal):∀ (cs bs:List AVal) (k:Nat),putCells (x::bs) (k+1) cs=x::putCells bs k cs
 |[],_,_=>rfl
 |c::cs,bs,k=>by rw [putCells,putCells,List.set_cons_succ,putCells_succ x cs]
theorem putCells_cons0 (x y:AVal) (bs cs:List AVal):putCells (x::bs) 0 (y::cs)=y::putCells bs 0 cs:=by
 rw [putCells,List.set_cons_zero,putCells_succ]
attribute [go_sem] putCells_nil putCells_succ putCells_cons0
theorem putCells_eq:∀ (cs bs:List AVal) (off:Nat),off+cs.length≤bs.length→putCells bs off cs=bs.take off++cs++bs.drop (off+cs.length)
 |[],bs,off,h=>by simp [putCells]
 |c::cs,bs,off,h=>by
  simp only [List.length_cons] at h
  rw [putCells,putCells_eq cs (bs.set off c) (off+1) (by simp;omega)]
  have e1:(bs.set off c).take (off+1)=bs.take off++[c]:=by
   rw [List.take_succ_eq_append_getElem (by simp;omega),List.take_set_of_le (Nat.le_refl _)]
   simp
  have e2:(bs.set off c).drop (off+1+cs.length)=bs.drop (off+(cs.length+1)):=by
   rw [List.drop_set_of_lt (by omega)]
   congr 1;omega
  rw [e1,e2]
  simp
attribute [go_sem] one_int one_bool one_str one_nilp one_ptr one_cptr one_sl one_view one_nilmap one_map one_fn one_nilfn one_ifc one_nilifc fieldOf List.getElem?_toArray Option.bind_some Option.bind_none
theorem wantL_none (fr:Fr):wantL none fr=some true:=rfl
end
section
theorem aStep_move (C:Cx) (g:Nat→AVal) (S:St) {x}:aStep C (.move x) g S=(some ⟨True,aEval C g x,S⟩):=rfl
theorem aStep_assign (C:Cx) (g:Nat→AVal) (S:St) {x}:aStep C (.assign x) g S=(some ⟨True,aEval C g x,S⟩):=rfl
theorem aStep_pick (C:Cx) (g:Nat→AVal) (S:St) {c} {a} {b}:aStep C (.pick c a b) g S=(match aEval C g c with
   |.bool t=>some ⟨True,if t=true then aEval C g a else aEval C g b,S⟩
   |_=>none):=rfl
theorem aStep_alloc (C:Cx) (g:Nat→AVal) (S:St) {t}:aStep C (.alloc t) g S=(match C.T t with
   |some i=>some ⟨True,.ptr S.length 0,S++[.cells i.zero t]⟩
   |none=>none):=rfl
theorem aStep_box (C:Cx) (g:Nat→AVal) (S:St) {t} {x}:aStep C (.box t x) g S=(some ⟨(aEval C g x).okc,.ptr S.length 0,S++[.cells (aEval C g x).cells t]⟩):=rfl
theorem aStep_build (C:Cx) (g:Nat→AVal) (S:St) {t} {parts}:aStep C (.build t parts) g S=(match C.T t with
   |some i=>match fillCells (placeOf C.T i) i.zero (parts.toList.map fun p=>(p.1,aEval C g p.2)) with
    |some out=>some ⟨i.isAgg=true∧(∀ n e,i.d = .array n e→(C.T e).isSome=true)∧∀ p∈parts.toList,(aEval C g p.2).okc,.agg out,S⟩
    |none=>none
   |none=>none):=rfl
theorem aStep_buildSlice (C:Cx) (g:Nat→AVal) (S:St) {t} {n} {parts}:aStep C (.buildSlice t n parts) g S=(match C.T t with
   |some i=>match i.d with
    |.slice e=>match C.T e with
     |some j=>match setElems j.size (List.replicate n (ofCells j j.zero)) (parts.toList.map fun p=>(p.1,aEval C g p.2)) with
      |some out=>some ⟨0<j.size∧n*j.size≤16777216∧∀ p∈parts.toList,(aEval C g p.2).okc,.sl j.size false out .full,S⟩
      |none=>none
     |none=>none
    |_=>none
   |none=>none):=rfl
theorem aStep_load (C:Cx) (g:Nat→AVal) (S:St) {t} {a}:aStep C (.load t a) g S=(aLoad C S t (aEval C g a)):=rfl
theorem aStep_store (C:Cx) (g:Nat→AVal) (S:St) {t} {a} {v}:aStep C (.store t a v) g S=(aStore C S t (aEval C g a) (aEval C g v)):=rfl
theorem aStep_nilCheck (C:Cx) (g:Nat→AVal) (S:St) {x}:aStep C (.nilCheck x) g S=(match aEval C g x with
   |.ptr b o=>some ⟨True,.ptr b o,S⟩
   |.cptr cs=>some ⟨True,.cptr cs,S⟩
   |.fn (.func f) as bs=>some ⟨True,.fn (.func f) as bs,S⟩
   |_=>none):=rfl
theorem aStep_binOp (C:Cx) (g:Nat→AVal) (S:St) {op} {t} {x} {y} {u4}:aStep C (.binOp op t x y u4) g S=(aBin C S op t x y (aEval C g x) (aEval C g y)):=rfl
theorem aStep_unOp (C:Cx) (g:Nat→AVal) (S:St) {op} {u1} {x}:aStep C (.unOp op u1 x) g S=(aUn S op (aEval C g x)):=rfl
theorem aStep_convert (C:Cx) (g:Nat→AVal) (S:St) {src} {dst} {x}:aStep C (.convert src dst x) g S=(aConvert C S src dst (aEval C g x)):=rfl
theorem aStep_sliceToArrayPointer (C:Cx) (g:Nat→AVal) (S:St) {t} {x}:aStep C (.sliceToArrayPointer t x) g S=(match C.T t with
   |some i=>match i.d with
    |.array n e=>match C.T e with
     |some j=>match aEval C g x with
      |.sl sz _ xs _=>some ⟨sz=1∧j.size=1∧0<n∧n≤xs.length∧∀ c∈xs.take n,c.one=true,.cptr (xs.take n),S⟩
      |.view b off m _=>some ⟨n≤m,.ptr b off,S⟩
      |_=>none
     |none=>none
    |_=>none
   |none=>none):=rfl
theorem aStep_makeInterface (C:Cx) (g:Nat→AVal) (S:St) {t} {x}:aStep C (.makeInterface t x) g S=(some ⟨C.P.concrete t=true,.ifc t (aEval C g x),S⟩):=rfl
theorem aStep_makeFunc (C:Cx) (g:Nat→AVal) (S:St) {fn} {as} {bs}:aStep C (.makeFunc fn as bs) g S=(some ⟨True,.fn fn (as.toList.map (aEval C g)) (bs.toList.map (aEval C g)),S⟩):=rfl
theorem aStep_slice (C:Cx) (g:Nat→AVal) (S:St) {t} {x} {lo} {hi} {mx}:aStep C (.slice t x lo hi mx) g S=(aSlice C S t (aEval C g x) (lo.map (aEval C g)) (hi.map (aEval C g)) (mx.map (aEval C g))):=rfl
theorem aStep_fieldAddr (C:Cx) (g:Nat→AVal) (S:St) {t} {x} {k}:aStep C (.fieldAddr t x k) g S=(aFieldAddr C S t (aEval C g x) k):=rfl
theorem aStep_field (C:Cx) (g:Nat→AVal) (S:St) {t} {x} {k}:aStep C (.field t x k) g S=(aField C S t (aEval C g x) k):=rfl
theorem aStep_indexAddr (C:Cx) (g:Nat→AVal) (S:St) {t} {x} {ix}:aStep C (.indexAddr t x ix) g S=(aIndexAddr C S t (aEval C g x) (aEval C g ix)):=rfl
theorem aStep_index (C:Cx) (g:Nat→AVal) (S:St) {t} {x} {ix}:aStep C (.index t x ix) g S=(aIndex C S t (aEval C g x) (aEval C g ix)):=rfl
theorem aStep_extract (C:Cx) (g:Nat→AVal) (S:St) {t} {k}:aStep C (.extract t k) g S=(match aEval C g t with
   |.tup vs=>some ⟨k<vs.length,vs.getD k .any,S⟩
   |_=>none):=rfl
theorem aStep_builtin (C:Cx) (g:Nat→AVal) (S:St) {b:Builtin} {xs:Array Operand} {ts:Array TypeId}:aStep C (.call ⟨.builtin b,xs,ts⟩) g S=aBuiltin C S b ts.toList (xs.toList.map (aEval C g)):=rfl
end
attribute [go_sem high] get_hit
attribute [go_sem] get_miss LB lite nextOf liteO Option.isNone if_false if_true
attribute [go_sem] aEval_tmp aEval_const aEval_global aEval_func get_nil wantL_none aStep_move aStep_assign aStep_pick aStep_alloc aStep_box aStep_build aStep_buildSlice aStep_load aStep_store aStep_nilCheck aStep_binOp aStep_unOp aStep_convert aStep_sliceToArrayPointer aStep_makeInterface aStep_makeFunc aStep_slice aStep_fieldAddr aStep_field aStep_indexAddr aStep_index aStep_extract aStep_builtin
theorem repl_1 (a:AVal):List.replicate 1 a=[a]:=rfl
theorem repl_2 (a:AVal):List.replicate 2 a=[a,a]:=rfl
theorem repl_3 (a:AVal):List.replicate 3 a=[a,a,a]:=rfl
theorem repl_4 (a:AVal):List.replicate 4 a=[a,a,a,a]:=rfl
theorem repl_5 (a:AVal):List.replicate 5 a=[a,a,a,a,a]:=rfl
theorem repl_6 (a:AVal):List.replicate 6 a=[a,a,a,a,a,a]:=rfl
theorem repl_7 (a:AVal):List.replicate 7 a=[a,a,a,a,a,a,a]:=rfl
theorem repl_8 (a:AVal):List.replicate 8 a=[a,a,a,a,a,a,a,a]:=rfl
theorem unb_bl (l:List UInt8):(bl l).map unb=l:=unbl_bl l
attribute [go_sem] unb_bl repl_1 repl_2 repl_3 repl_4 repl_5 repl_6 repl_7 repl_8 Bool.false_eq_true List.length_replicate List.length_set List.set_cons_zero List.set_cons_succ true_and and_true List.getElem?_cons_zero List.getElem?_cons_succ List.isEmpty_cons List.isEmpty_nil Bool.and_false Bool.and_true Bool.true_and Bool.false_and List.drop_zero List.drop_succ_cons List.append_nil List.nil_append List.cons_append append_bl1 append_bl2 gt_iff_lt ge_iff_le
attribute [go_sem] length_bl take_bl drop_bl append_bl cells_int cells_bv cells_str cells_bool cells_sl cells_agg cells_ptr cells_ifc cells_nilifc cells_nilp cells_fn cells_nilfn beq_decide bne_decide not_decide'
 Int.toNat_natCast List.take_succ_cons List.take_zero List.headD_cons List.map_cons List.map_nil Option.map_some Option.map_none List.length_cons List.length_nil Nat.zero_add Nat.add_zero Option.getD_some
theorem tdiv_pos (a b:Int) (h:0≤a):a.tdiv b=a/b:=Int.tdiv_eq_ediv_of_nonneg h
theorem tmod_pos (a b:Int) (h:0≤a):a.tmod b=a%b:=Int.tmod_eq_emod_of_nonneg h
theorem maxLen_eq:maxLen=9223372036854775807:=rfl
theorem okc_one {v:AVal} (h:v.cells=[v]) (h1:v.one=true):v.okc↔True:=⟨fun _=>trivial,fun _ c hc=>by rw [h,List.mem_singleton] at hc;subst hc;exact h1⟩
theorem okc_str (s:List UInt8):(AVal.str s).okc↔True:=okc_one rfl rfl
theorem okc_bool (b:Bool):(AVal.bool b).okc↔True:=okc_one rfl rfl
theorem okc_sl (sz:Nat) (nl:Bool) (xs:List AVal) (t:Tag):(AVal.sl sz nl xs t).okc↔True:=okc_one rfl rfl
theorem okc_ptr (i o:Nat):(AVal.ptr i o).okc↔True:=okc_one rfl rfl
theorem okc_view (i o n c:Nat):(AVal.view i o n c).okc↔True:=okc_one rfl rfl
theorem okc_cptr (c:List AVal):(AVal.cptr c).okc↔True:=okc_one rfl rfl
theorem okc_nilp:AVal.nilp.okc↔True:=okc_one rfl rfl
theorem okc_nilifc:AVal.nilifc.okc↔True:=okc_one rfl rfl
theorem okc_nilfn:AVal.nilfn.okc↔True:=okc_one rfl rfl
theorem okc_fn (f:Fn) (a b:List AVal):(AVal.fn f a b).okc↔True:=okc_one rfl rfl
theorem okc_ifc (t:TypeId) (v:AVal):(AVal.ifc t v).okc↔True:=okc_one rfl rfl
theorem okc_agg (cs:List AVal):(AVal.agg cs).okc↔∀ c∈cs,c.one=true:=Iff.rfl
def isSliceT (C:Cx) (t:TypeId):Bool:=match C.T t with|some i=>(match i.d with|.slice _=>true|_=>false)|none=>false
def isStringT (C:Cx) (t:TypeId):Bool:=match C.T t with|some i=>(match i.d with|.string=>true|_=>false)|none=>false
theorem isSliceT_iff {C:Cx} {t:TypeId}:isSliceT C t=true↔∃ i e,C.T t=some i∧i.d = .slice e:=by
 unfold isSliceT
 constructor
 ·intro h
  split at h
  ·next i hi =>
   split at h
   ·next e he=>exact ⟨i,e,hi,he⟩
   ·cases h
  ·cases h
 ·rintro ⟨i,e,h1,h2⟩
  rw [h1];simp [h2]
theorem isStringT_iff {C:Cx} {t:TypeId}:isStringT C t=true↔∃ i,C.T t=some i∧i.d = .string:=by
 unfold isStringT
 constructor
 ·intro h
  split at h
  ·next i hi =>
   split at h
   ·next he=>exact ⟨i,hi,he⟩
   ·cases h
  ·cases h
 ·rintro ⟨i,h1,h2⟩
  rw [h1];simp [h2]
theorem srcTy_sl {C:Cx} {t:TypeId} (sz:Nat) (nl:Bool) (xs:List AVal) (tg:Tag):srcTy C t (.sl sz nl xs tg)↔isSliceT C t=true:=isSliceT_iff.symm
theorem srcTy_view {C:Cx} {t:TypeId} (i o n c:Nat):srcTy C t (.view i o n c)↔isSliceT C t=true:=isSliceT_iff.symm
theorem srcTy_str {C:Cx} {t:TypeId} (s:List UInt8):srcTy C t (.str s)↔isStringT C t=true:=isStringT_iff.symm
theorem srcOk_sl (S:St) (sz sz':Nat) (nl:Bool) (xs:List AVal) (tg:Tag):srcOk S sz (.sl sz' nl xs tg)↔(sz'=sz∨xs=[]):=Iff.rfl
theorem srcOk_str (S:St) (sz:Nat) (s:List UInt8):srcOk S sz (.str s)↔sz=1:=Iff.rfl
theorem srcOk_view (S:St) (sz i o n c:Nat):srcOk S sz (.view i o n c)↔(sz=1∧∃ cs t,S[i]? = some (ABox.cells cs t)∧o+n≤cs.length∧∀ c∈(cs.drop o).take n,c.one=true):=Iff.rfl
attribute [go_sem] srcTy_sl srcTy_view srcTy_str srcOk_sl srcOk_str srcOk_view isSliceT isStringT maxLen_eq true_or or_true
theorem forall_nil {α:Type} (p:α→Prop):(∀ x∈([]:List α),p x)↔True:=⟨fun _=>trivial,fun _ x h=>by cases h⟩
theorem okc_bl (l:List UInt8):(∀ c∈bl l,c.one=true)↔True:=⟨fun _=>trivial,fun _ c hc=>by obtain ⟨b,_,rfl⟩:=List.mem_map.1 hc;rfl⟩
attribute [go_sem] tdiv_pos tmod_pos okc_str okc_bool okc_sl okc_ptr okc_view okc_cptr okc_nilp okc_nilifc okc_nilfn okc_fn okc_ifc okc_agg okc_int forall_nil okc_bl List.forall_mem_cons
attribute [go_sem] getD_bl IntWalk.i64_in IntWalk.u64_in IntWalk.u8_in IntWalk.i32_in IntWalk.u32_in
end Go.Am
