/- ScriptBounds, a closed sentence (no arguments): it returns true and changes nothing. -/
import Derived.Test.YtodiaabcaahnjaaGreatDoorS56
import Derived.Test.YtodiaabcaahnjaaGreatDoorS16
set_option linter.unusedVariables false
set_option linter.unusedSimpArgs false
namespace Go.Am
open Go Go.Proofs
set_option maxHeartbeats 8000000
set_option maxRecDepth 100000
theorem args_bounds (avs:List AVal) (h:All2 (ArgV Tryz.prog 9) [] avs):APure cx 5 avs (.bool true):=by
 cases h
 exact law_bounds25
end Go.Am
namespace Go.Proofs.YtodiaabcaahnjaaGreatDoor
open Go.ChangeShapes Go.WideShapes Go.ChangeAt Go.RowKit
set_option maxRecDepth 100000 in
theorem script_bounds_lifted (os:Os) (started:os.Started) (H:Type) (enc:TypeId × Value→H) :
  ReturnsInHanded {} Tryz.checked os 5 .any (fun w args=>(Rows.scriptBoundsSpec.pre enc Tryz.prog Tryz.f5 Rows.scriptBoundsRow.domain false w args∧laidMetH Tryz.prog Rows.scriptBoundsRow.laid w)∧sizedMet enc Tryz.prog Tryz.f5 (OpenSpec.ofChange Rows.scriptBoundsSpec) false w args)
   (Rows.scriptBoundsSpec.post enc Tryz.prog Tryz.f5 false true false false):=by
 refine Go.Am.handed_shaped (C:=Tryz.checked) (X:=fun w _=>laidMetH Tryz.prog Rows.scriptBoundsRow.laid w) (fun _ _ _ hh h=>h.of_heap hh) own started (by kernel_rfl) Tryz.func5
  (ChangeSpec.witness_shaped (enc:=enc) (C:=Tryz.checked) (os:=os) (X:=fun w _=>laidMetH Tryz.prog Rows.scriptBoundsRow.laid w) false (World.laidAll Tryz.prog os Rows.scriptBoundsRow.laid)
   #[] 8 (World.laidAll_os _ _ _)
   (World.shaped_of_ZipB (by kernel_rfl) (by kernel_rfl)) (by kernel_rfl) (by kernel_rfl) (by kernel_rfl)
   (by rw [MakeChecks.laidMetH_plain _ _ _ (by kernel_rfl)];exact laidMet_laidAll _ (by kernel_rfl) (by kernel_rfl))) ?_
 intro W base args ds gs before hval0 hW hc _ hL hsh
 have hG:=Go.Am.cx_glob (W:=W) (by rw [MakeChecks.laidMetH_plain _ _ _ (by kernel_rfl)] at hL;exact hL) hsh
 have hval:∀ (j:Nat) t v,Tryz.f5.params[j]? = some t→args[j]? = some v→Value.okWide Tryz.prog W .any base t v:=hval0
 have hW':=hW
 obtain ⟨p,q,hA0,hV,rfl,_,_⟩:=hW
 have hA:DataW.TrodAll enc Tryz.prog W 0 (fun _=>true) true Tryz.f5.params.toList args.toList ds p:=hA0
 rw [Tryz.params5] at hA hval
 obtain ⟨rfl,rfl⟩:=trodVars_none hV
 simp only [List.append_nil] at hW'
 have hpar:Tryz.f5.params.toList=([]:List TypeId):=by rw [Tryz.params5]
 have hds:ds=[]:=by
  have:=Go.Am.trodAll_lengths hA
  match ds,this with
  |[],_=>rfl
 subst hds
 refine (Go.Am.law_argsG (C:=Go.Am.cx) (k:=9) laidOut (by kernel_rfl) Go.Am.args_bounds hG hA (fun j t v h1 h2=>hval j t v (by simp at h1) (by simpa using h2))).mono fun e W' ⟨he,hg⟩=>?_
 subst he
 exact ⟨_,rfl,Go.Am.post_grown (pa:=p) (pv:=[]) hW' hg (fun _ _ _=>trodAll_mk1 (shut_bool Tryz.underlying4 _))
  (fun sp hs=>by
   rw [hpar]
   exact Go.Am.trodAll_grown laidOut rowed (fun h1 h2=>Go.Am.slicesB_ok sliced h1 h2) hg (fun t ht=>by
    have hall:(([]:List TypeId).all fun t=>Nat.blt t Tryz.prog.types.size)=true:=by kernel_rfl
    exact Go.Am.blt_iff.1 (List.all_eq_true.1 hall t ht)) hA (fun p hp=>hs p (by simpa using hp)))
  (fun _ _=>rfl) (by simp) (ok_one (by kernel_rfl) rfl (okWide_bool_mk Tryz.underlying4 _))⟩
theorem script_bounds_row:Rows.ScriptBoundsSaid :=
 OpenClaim.holds_of_wide 5 Tryz.f5 rfl rfl rfl rfl rfl rfl rfl ⟨rfl,rfl,rfl,rfl,rfl⟩ rfl rfl rfl rfl rfl (by kernel_rfl) Tryz.func5 (by kernel_rfl)
  (of_decide_eq_true (by kernel_rfl)) (by unfold Func.isWrapper;first|(rw [if_pos (by decide +kernel)];kernel_rfl)|(rw [if_neg (by decide +kernel)];exact ⟨rfl,rfl⟩))
  (fun os started H enc _=>script_bounds_lifted os started H enc)
theorem script_bounds:Rows.ScriptBoundsCardSaid :=
 Claim7.holds_tied_plain_at .later [] [.data,.data,.data,.data,.sentinel,.sentinel,.pinned] true (true, "68d5ea145f4c91e0dcadab09a687eb52498adfc47fca7b27058bdca638173d16") true
  script_bounds_row (fun _ h=>by cases h) (by kernel_rfl) (fun _ h=>by cases h) scriptBounds_row_tie rfl ⟨rfl,rfl⟩ (by kernel_rfl) rfl
  (fun f fn hf hfn=>by
   obtain rfl:f=5:=Option.some.inj ((show Tryz.prog.funcNamed "anchorite/anchoritelaw25.ScriptBounds" = some 5 by kernel_rfl).symm.trans hf) |>.symm
   obtain rfl:fn=Tryz.f5:=(Option.some.inj (Tryz.func5.symm.trans hfn)).symm
   exact ⟨by kernel_rfl,fun j t ht=>by
    rw [Tryz.params5] at ht
    have hm:t∈([]:List TypeId):=by simpa using Array.mem_of_getElem? ht
    have hall:(([]:List TypeId).all fun u => !Tryz.prog.wantsStandIn u)=true:=by kernel_rfl
    exact (show Tryz.prog.wantsStandIn t=false by simpa using List.all_eq_true.1 hall t hm)⟩)
  (by kernel_rfl)
end Go.Proofs.YtodiaabcaahnjaaGreatDoor
