/- ReportBack, for any two reports: it returns true and changes nothing. -/
import Derived.Test.YtbaminbodfidmaaDoorR10
import Derived.Test.YtbaminbodfidmaaDoorR11
set_option linter.unusedVariables false
set_option linter.unusedSimpArgs false
namespace Go.Am
open Go Go.Proofs
set_option linter.unusedSimpArgs false
set_option linter.unusedVariables false
set_option maxHeartbeats 8000000
set_option maxRecDepth 100000

theorem args_back (avs : List AVal) (h : All2 (ArgV Tryd.prog 9) [28, 28] avs) : APure cx 4 avs (.bool true) := by
  cases h with
  | cons h0 t0 =>
    cases t0 with
    | cons h1 t1 =>
      cases t1
      obtain ⟨n1, m1, c1, rfl, hn1, hm1, hc1⟩ := arg_rep h0
      obtain ⟨n2, m2, c2, rfl, hn2, hm2, hc2⟩ := arg_rep h1
      exact law_back n1 n2 m1 c1 m2 c2 hn1 hm1 hc1 hn2 hm2 hc2
end Go.Am
namespace Go.Proofs.YtbaminbodfidmaaDoor
open Go.ChangeShapes Go.WideShapes Go.ChangeAt Go.RowKit

set_option maxRecDepth 100000 in
theorem report_back_lifted (os : Os) (started : os.Started) (H : Type) (enc : TypeId × Value → H) :
    ReturnsInHanded {} Tryd.checked os 4 .any (fun w args => (Rows.reportBackSpec.pre enc Tryd.prog Tryd.f4 Rows.reportBackRow.domain false w args ∧ laidMetH Tryd.prog Rows.reportBackRow.laid w) ∧ sizedMet enc Tryd.prog Tryd.f4 (OpenSpec.ofChange Rows.reportBackSpec) false w args)
      (Rows.reportBackSpec.post enc Tryd.prog Tryd.f4 false true false false) := by
  refine Go.Am.handed_shaped (C := Tryd.checked) (X := fun w _ => laidMetH Tryd.prog Rows.reportBackRow.laid w) (fun _ _ _ hh h => h.of_heap hh) own started (by kernel_rfl) Tryd.func4
    (ChangeSpec.witness_shaped (enc := enc) (C := Tryd.checked) (os := os) (X := fun w _ => laidMetH Tryd.prog Rows.reportBackRow.laid w) false (World.laidAll Tryd.prog os Rows.reportBackRow.laid)
      #[.agg ⟨.int .u64 0 :: List.replicate 64 (.int .u8 0)⟩, .agg ⟨.int .u64 0 :: List.replicate 64 (.int .u8 0)⟩] 8 (World.laidAll_os _ _ _)
      (World.shaped_of_ZipB (by kernel_rfl) (by kernel_rfl)) (by kernel_rfl) (by kernel_rfl) (by kernel_rfl)
      (by rw [MakeChecks.laidMetH_plain _ _ _ (by kernel_rfl)]; exact laidMet_laidAll _ (by kernel_rfl) (by kernel_rfl))) ?_
  intro W base args ds gs before hval0 hW hc _ hL hsh
  have hG := Go.Am.cx_glob (W := W) (by rw [MakeChecks.laidMetH_plain _ _ _ (by kernel_rfl)] at hL; exact hL) hsh
  have hval : ∀ (j : Nat) t v, Tryd.f4.params[j]? = some t → args[j]? = some v → Value.okWide Tryd.prog W .any base t v := hval0
  have hW' := hW
  obtain ⟨p, q, hA0, hV, rfl, _, _⟩ := hW
  have hA : DataW.TrodAll enc Tryd.prog W 0 (fun _ => true) true Tryd.f4.params.toList args.toList ds p := hA0
  rw [Tryd.params4] at hA hval
  obtain ⟨rfl, rfl⟩ := trodVars_none hV
  simp only [List.append_nil] at hW'
  have hpar : Tryd.f4.params.toList = [28, 28] := by rw [Tryd.params4]
  have hds : ∃ d1 d2, ds = [d1, d2] := by
    have := Go.Am.trodAll_lengths hA
    match ds, this with
    | [d1, d2], _ => exact ⟨d1, d2, rfl⟩
  obtain ⟨d1, d2, rfl⟩ := hds
  refine (Go.Am.law_argsG (C := Go.Am.cx) (k := 9) laidOut (by kernel_rfl) Go.Am.args_back hG hA (fun j t v h1 h2 => hval j t v (by simpa using h1) (by simpa using h2))).mono fun e W' ⟨he, hg⟩ => ?_
  subst he
  exact ⟨_, rfl, Go.Am.post_grown (pa := p) (pv := []) hW' hg (fun _ _ _ => trodAll_mk1 (shut_bool Tryd.underlying4 _))
    (fun sp hs => by
      rw [hpar]
      exact Go.Am.trodAll_grown laidOut rowed (fun h1 h2 => Go.Am.slicesB_ok sliced h1 h2) hg (fun t ht => by
        have hall : ([28, 28].all fun t => Nat.blt t Tryd.prog.types.size) = true := by kernel_rfl
        exact Go.Am.blt_iff.1 (List.all_eq_true.1 hall t ht)) hA (fun p hp => hs p (by simpa using hp)))
    (fun _ _ => rfl) (by simp) (ok_one (by kernel_rfl) rfl (okWide_bool_mk Tryd.underlying4 _))⟩

theorem report_back_row : Rows.ReportBackSaid :=
  OpenClaim.holds_of_wide 4 Tryd.f4 rfl rfl rfl rfl rfl rfl rfl ⟨rfl, rfl, rfl, rfl, rfl⟩ rfl rfl rfl rfl rfl (by kernel_rfl) Tryd.func4 (by kernel_rfl)
    (of_decide_eq_true (by kernel_rfl)) (by unfold Func.isWrapper; first | (rw [if_pos (by decide +kernel)]; kernel_rfl) | (rw [if_neg (by decide +kernel)]; exact ⟨rfl, rfl⟩))
    (fun os started H enc _ => report_back_lifted os started H enc)

theorem report_back : Rows.ReportBackCardSaid :=
  Claim7.holds_tied_plain_at .later [] [.data, .data, .data, .data, .sentinel, .sentinel, .pinned] true (true, "dc768966a3c404de8a4a9830486b4b70cb4623bea2094b617c0ecd3aab0b2f1c") true
    report_back_row (fun _ h => by cases h) (by kernel_rfl) (fun _ h => by cases h) reportBack_row_tie rfl ⟨rfl, rfl⟩ (by kernel_rfl) rfl
    (fun f fn hf hfn => by
      obtain rfl : f = 4 := Option.some.inj ((show Tryd.prog.funcNamed "anchorite/anchoritelaw18.ReportBack" = some 4 by kernel_rfl).symm.trans hf) |>.symm
      obtain rfl : fn = Tryd.f4 := (Option.some.inj (Tryd.func4.symm.trans hfn)).symm
      exact ⟨by kernel_rfl, fun j t ht => by
        rw [Tryd.params4] at ht
        have hm : t ∈ [28, 28] := by simpa using Array.mem_of_getElem? ht
        have hall : ([28, 28].all fun u => !Tryd.prog.wantsStandIn u) = true := by kernel_rfl
        exact (show Tryd.prog.wantsStandIn t = false by simpa using List.all_eq_true.1 hall t hm)⟩)
    (by kernel_rfl)
#print axioms report_back
end Go.Proofs.YtbaminbodfidmaaDoor
