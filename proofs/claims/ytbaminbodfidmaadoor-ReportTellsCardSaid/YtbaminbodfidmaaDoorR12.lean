/- ReportTells, for any two reports: it returns true and changes nothing. -/
import Derived.Test.YtbaminbodfidmaaDoorR08
import Derived.Test.YtbaminbodfidmaaDoorR11
set_option linter.unusedVariables false
set_option linter.unusedSimpArgs false
namespace Go.Am
open Go Go.Proofs
set_option linter.unusedSimpArgs false
set_option linter.unusedVariables false
set_option maxHeartbeats 8000000
set_option maxRecDepth 100000

theorem args_tells (avs : List AVal) (h : All2 (ArgV Tryd.prog 9) [28, 28] avs) : APure cx 6 avs (.bool true) := by
  cases h with
  | cons h0 t0 =>
    cases t0 with
    | cons h1 t1 =>
      cases t1
      obtain ⟨n1, m1, c1, rfl, hn1, hm1, hc1⟩ := arg_rep h0
      obtain ⟨n2, m2, c2, rfl, hn2, hm2, hc2⟩ := arg_rep h1
      exact law_tells n1 n2 m1 c1 m2 c2 hn1 hm1 hc1 hm2 hc2
end Go.Am
namespace Go.Proofs.YtbaminbodfidmaaDoor
open Go.ChangeShapes Go.WideShapes Go.ChangeAt Go.RowKit

set_option maxRecDepth 100000 in
theorem report_tells_lifted (os : Os) (started : os.Started) (H : Type) (enc : TypeId × Value → H) :
    ReturnsInHanded {} Tryd.checked os 6 .any (fun w args => (Rows.reportTellsSpec.pre enc Tryd.prog Tryd.f6 Rows.reportTellsRow.domain false w args ∧ laidMetH Tryd.prog Rows.reportTellsRow.laid w) ∧ sizedMet enc Tryd.prog Tryd.f6 (OpenSpec.ofChange Rows.reportTellsSpec) false w args)
      (Rows.reportTellsSpec.post enc Tryd.prog Tryd.f6 false true false false) := by
  refine Go.Am.handed_shaped (C := Tryd.checked) (X := fun w _ => laidMetH Tryd.prog Rows.reportTellsRow.laid w) (fun _ _ _ hh h => h.of_heap hh) own started (by kernel_rfl) Tryd.func6
    (ChangeSpec.witness_shaped (enc := enc) (C := Tryd.checked) (os := os) (X := fun w _ => laidMetH Tryd.prog Rows.reportTellsRow.laid w) false (World.laidAll Tryd.prog os Rows.reportTellsRow.laid)
      #[.agg ⟨.int .u64 0 :: List.replicate 64 (.int .u8 0)⟩, .agg ⟨.int .u64 0 :: List.replicate 64 (.int .u8 0)⟩] 8 (World.laidAll_os _ _ _)
      (World.shaped_of_ZipB (by kernel_rfl) (by kernel_rfl)) (by kernel_rfl) (by kernel_rfl) (by kernel_rfl)
      (by rw [MakeChecks.laidMetH_plain _ _ _ (by kernel_rfl)]; exact laidMet_laidAll _ (by kernel_rfl) (by kernel_rfl))) ?_
  intro W base args ds gs before hval0 hW hc _ hL hsh
  have hG := Go.Am.cx_glob (W := W) (by rw [MakeChecks.laidMetH_plain _ _ _ (by kernel_rfl)] at hL; exact hL) hsh
  have hval : ∀ (j : Nat) t v, Tryd.f6.params[j]? = some t → args[j]? = some v → Value.okWide Tryd.prog W .any base t v := hval0
  have hW' := hW
  obtain ⟨p, q, hA0, hV, rfl, _, _⟩ := hW
  have hA : DataW.TrodAll enc Tryd.prog W 0 (fun _ => true) true Tryd.f6.params.toList args.toList ds p := hA0
  rw [Tryd.params6] at hA hval
  obtain ⟨rfl, rfl⟩ := trodVars_none hV
  simp only [List.append_nil] at hW'
  have hpar : Tryd.f6.params.toList = [28, 28] := by rw [Tryd.params6]
  have hds : ∃ d1 d2, ds = [d1, d2] := by
    have := Go.Am.trodAll_lengths hA
    match ds, this with
    | [d1, d2], _ => exact ⟨d1, d2, rfl⟩
  obtain ⟨d1, d2, rfl⟩ := hds
  refine (Go.Am.law_argsG (C := Go.Am.cx) (k := 9) laidOut (by kernel_rfl) Go.Am.args_tells hG hA (fun j t v h1 h2 => hval j t v (by simpa using h1) (by simpa using h2))).mono fun e W' ⟨he, hg⟩ => ?_
  subst he
  exact ⟨_, rfl, Go.Am.post_grown (pa := p) (pv := []) hW' hg (fun _ _ _ => trodAll_mk1 (shut_bool Tryd.underlying4 _))
    (fun sp hs => by
      rw [hpar]
      exact Go.Am.trodAll_grown laidOut rowed (fun h1 h2 => Go.Am.slicesB_ok sliced h1 h2) hg (fun t ht => by
        have hall : ([28, 28].all fun t => Nat.blt t Tryd.prog.types.size) = true := by kernel_rfl
        exact Go.Am.blt_iff.1 (List.all_eq_true.1 hall t ht)) hA (fun p hp => hs p (by simpa using hp)))
    (fun _ _ => rfl) (by simp) (ok_one (by kernel_rfl) rfl (okWide_bool_mk Tryd.underlying4 _))⟩

theorem report_tells_row : Rows.ReportTellsSaid :=
  OpenClaim.holds_of_wide 6 Tryd.f6 rfl rfl rfl rfl rfl rfl rfl ⟨rfl, rfl, rfl, rfl, rfl⟩ rfl rfl rfl rfl rfl (by kernel_rfl) Tryd.func6 (by kernel_rfl)
    (of_decide_eq_true (by kernel_rfl)) (by unfold Func.isWrapper; first | (rw [if_pos (by decide +kernel)]; kernel_rfl) | (rw [if_neg (by decide +kernel)]; exact ⟨rfl, rfl⟩))
    (fun os started H enc _ => report_tells_lifted os started H enc)

theorem report_tells : Rows.ReportTellsCardSaid :=
  Claim7.holds_tied_plain_at .later [] [.data, .data, .data, .data, .sentinel, .sentinel, .pinned] true (true, "dc768966a3c404de8a4a9830486b4b70cb4623bea2094b617c0ecd3aab0b2f1c") true
    report_tells_row (fun _ h => by cases h) (by kernel_rfl) (fun _ h => by cases h) reportTells_row_tie rfl ⟨rfl, rfl⟩ (by kernel_rfl) rfl
    (fun f fn hf hfn => by
      obtain rfl : f = 6 := Option.some.inj ((show Tryd.prog.funcNamed "anchorite/anchoritelaw18.ReportTells" = some 6 by kernel_rfl).symm.trans hf) |>.symm
      obtain rfl : fn = Tryd.f6 := (Option.some.inj (Tryd.func6.symm.trans hfn)).symm
      exact ⟨by kernel_rfl, fun j t ht => by
        rw [Tryd.params6] at ht
        have hm : t ∈ [28, 28] := by simpa using Array.mem_of_getElem? ht
        have hall : ([28, 28].all fun u => !Tryd.prog.wantsStandIn u) = true := by kernel_rfl
        exact (show Tryd.prog.wantsStandIn t = false by simpa using List.all_eq_true.1 hall t hm)⟩)
    (by kernel_rfl)
#print axioms report_tells
end Go.Proofs.YtbaminbodfidmaaDoor
