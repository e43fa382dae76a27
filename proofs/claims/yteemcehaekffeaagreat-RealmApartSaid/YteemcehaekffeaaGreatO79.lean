/- RealmApart, for any two lists of acts: it returns true and changes nothing. No condition. -/
import Derived.Test.YteemcehaekffeaaGreatO74
import Derived.Test.YteemcehaekffeaaGreatQ41
import Derived.Test.YteemcehaekffeaaGreatO78
import Derived.Test.YteemcehaekffeaaGreatAmRow
set_option linter.unusedVariables false
set_option linter.unusedSimpArgs false
namespace Go.Am
open Go Go.Proofs
set_option maxRecDepth 100000
theorem args_apart (avs:List AVal) (h:All2 (ArgV Tryz.prog 9) [22,22] avs):APure cx 5 avs (.bool true):=by
 cases h with
 |cons h0 t0 =>
 cases t0 with
 |cons h1 t1 =>
 cases t1
 obtain ⟨l,nl,rfl,hok,hl,hn⟩:=arg_acts h0
 obtain ⟨m,nm,rfl,hom,hm,hnm⟩:=arg_acts h1
 exact law_apart l m nl nm hok hom hl hm
end Go.Am
namespace Go.Proofs.YteemcehaekffeaaGreat
open Go.ChangeShapes Go.WideShapes Go.ChangeAt Go.RowKit
set_option maxRecDepth 100000 in
theorem realm_apart_lifted (os:Os) (started:os.Started) (H:Type) (enc:TypeId × Value→H) :
  ReturnsInHanded {} Tryz.checked os 5 .any (Rows.realmApartSpec.pre6 enc Tryz.prog Tryz.f5 Rows.realmApartRow.domain false) (Rows.realmApartSpec.post enc Tryz.prog Tryz.f5 false true false false):=by
 refine returnsInHanded_of_change (C:=Tryz.checked) own started (by kernel_rfl) Tryz.func5
  (ChangeSpec.witness6 (enc:=enc) (C:=Tryz.checked) false ⟨#[],#[.slice none 0 0,.slice none 0 0],[]⟩ 8 (by kernel_rfl) (by kernel_rfl) (by kernel_rfl) (by kernel_rfl)) ?_
 intro W base args ds gs before hval0 hW hcnd _
 have hval:∀ (j:Nat) t v,Tryz.f5.params[j]? = some t→args[j]? = some v→Value.okWide Tryz.prog W .any base t v:=hval0
 have hW':=hW
 obtain ⟨p,q,hA0,hV,rfl,hfz,hnd⟩:=hW
 have hA:DataW.TrodAll enc Tryz.prog W 0 (fun _=>true) true Tryz.f5.params.toList args.toList ds p:=hA0
 rw [Tryz.params5] at hA hval
 obtain ⟨rfl,rfl⟩:=trodVars_none hV
 simp only [List.append_nil] at hW'
 have hpar:Tryz.f5.params.toList=[22,22]:=by rw [Tryz.params5]
 have hds:∃ d1 d2,ds=[d1,d2]:=by
  have:=Go.Am.trodAll_lengths hA
  match ds,this with
  |[d1,d2],_=>exact ⟨d1,d2,rfl⟩
 obtain ⟨d1,d2,rfl⟩:=hds
 refine (Go.Am.law_args (C:=Go.Am.cx) (k:=9) (fun g v h=>by cases h) laidOut (by kernel_rfl) Go.Am.args_apart hA (fun j t v h1 h2=>hval j t v (by simpa using h1) (by simpa using h2))).mono fun e W' ⟨he,hg⟩=>?_
 subst he
 exact ⟨_,rfl,Go.Am.post_grown (pa:=p) (pv:=[]) hW' hg (fun _ _ _=>trodAll_mk1 (shut_bool Tryz.underlying4 _))
  (fun sp hs=>by
   rw [hpar]
   exact Go.Am.trodAll_grown laidOut rowed (fun h1 h2=>Go.Am.slicesB_ok sliced h1 h2) hg (fun t ht=>by
    have hall:([22,22].all fun t=>Nat.blt t Tryz.prog.types.size)=true:=by kernel_rfl
    exact Go.Am.blt_iff.1 (List.all_eq_true.1 hall t ht)) hA (fun p hp=>hs p (by simpa using hp)))
  (fun _ _=>rfl) (by simp) (ok_one (by kernel_rfl) rfl (okWide_bool_mk Tryz.underlying4 _))⟩
theorem realm_apart:Rows.RealmApartSaid :=
 OpenClaim.holds_of_wide 5 Tryz.f5 rfl rfl rfl rfl rfl rfl rfl ⟨rfl,rfl,rfl,rfl,rfl⟩ rfl rfl rfl rfl rfl (by kernel_rfl) Tryz.func5 Go.Am.joined_realmApart
  (of_decide_eq_true (by kernel_rfl)) (by unfold Func.isWrapper;first|(rw [if_pos (by decide +kernel)];kernel_rfl)|(rw [if_neg (by decide +kernel)];exact ⟨rfl,rfl⟩))
  (fun os started H enc _=>realm_apart_lifted os started H enc)
#print axioms realm_apart
end Go.Proofs.YteemcehaekffeaaGreat
