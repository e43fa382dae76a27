/- CallOps, for any operation, any text of at most 9000 bytes, any at most 60 words (beyond: nothing is asked of them), any number: it returns true and changes nothing. -/
import Derived.Test.YtikookfljnilpaaDoorL33
import Derived.Test.YtikookfljnilpaaDoorL14
set_option linter.unusedVariables false
set_option linter.unusedSimpArgs false
namespace Go.Am
open Go Go.Proofs
set_option linter.unusedSimpArgs false
set_option linter.unusedVariables false
set_option maxHeartbeats 8000000
set_option maxRecDepth 100000

theorem list_words {k : Nat} : ∀ xs : List (List AVal), (∀ x ∈ xs, ArgC Tryd.prog (k + 1) 29 x) → ∃ l : List Nat, xs.map (wrapA Tryd.prog 29) = wl l ∧ l.length = xs.length ∧ ∀ w ∈ l, w < 18446744073709551616
  | [], _ => ⟨[], rfl, rfl, fun _ h => by cases h⟩
  | x :: xs, h => by
    obtain ⟨l, h1, h2, h3⟩ := list_words xs fun y hy => h y (List.mem_cons_of_mem _ hy)
    obtain ⟨n, rfl, hn0, hn1⟩ := argC_int Tryd.underlying29 (h x (List.mem_cons_self ..))
    have hn0 : 0 ≤ n := hn0
    have hn1 : n ≤ 18446744073709551615 := hn1
    obtain ⟨w, rfl⟩ := Int.eq_ofNat_of_zero_le hn0
    refine ⟨w :: l, ?_, by simp [h2], fun u hu => ?_⟩
    · rw [List.map_cons, h1]
      unfold wrapA
      rw [Tryd.underlying29]
      rfl
    · rcases List.mem_cons.1 hu with rfl | hu
      · omega
      · exact h3 u hu

/-- A list of words. -/
theorem arg_words {v : AVal} (h : ArgV Tryd.prog 9 22 v) : ∃ (nl : Bool) (l : List Nat), v = .sl 1 nl (wl l) .any ∧ (∀ w ∈ l, w < 18446744073709551616) ∧ l.length ≤ 9223372036854775807 ∧ (nl = true → l = []) := by
  obtain ⟨cs, rfl, hc⟩ := h
  unfold ArgC at hc
  rw [Tryd.underlying22] at hc
  obtain ⟨nl, xs, rfl, hn, hl, hx⟩ := hc
  obtain ⟨l, h1, h2, h3⟩ := list_words xs hx
  refine ⟨nl, l, ?_, h3, by rw [h2]; exact hl, fun h => ?_⟩
  · unfold wrapA
    rw [Tryd.underlying22]
    show AVal.sl (Tryd.prog.cellsOf 29) nl (xs.map (wrapA Tryd.prog 29)) .any = _
    rw [h1, show Tryd.prog.cellsOf 29 = 1 by kernel_rfl]
  · have := hn h
    subst this
    simpa using h2

/-- A number. -/
theorem arg_int {v : AVal} (h : ArgV Tryd.prog 9 3 v) : ∃ n : Int, v = .int .i64 n := by
  obtain ⟨cs, rfl, hc⟩ := h
  obtain ⟨n, rfl, hn⟩ := argC_int Tryd.underlying3 hc
  refine ⟨n, ?_⟩
  unfold wrapA
  rw [Tryd.underlying3]
  rfl

theorem args_ops (avs : List AVal) (h : All2 (ArgV Tryd.prog 9) [3, 9, 22, 3] avs) : APure cx 3 avs (.bool true) := by
  cases h with
  | cons h0 t =>
    cases t with
    | cons h1 t =>
      cases t with
      | cons h2 t =>
        cases t with
        | cons h3 t =>
          cases t
          obtain ⟨op, rfl⟩ := arg_int h0
          obtain ⟨s, rfl, hs⟩ := arg_str h1
          obtain ⟨nl, a, rfl, _, ha, _⟩ := arg_words h2
          obtain ⟨leave, rfl⟩ := arg_int h3
          exact law_ops op s nl a leave hs ha
end Go.Am
namespace Go.Proofs.YtikookfljnilpaaDoor
open Go.ChangeShapes Go.WideShapes Go.ChangeAt Go.RowKit

set_option maxRecDepth 100000 in
theorem call_ops_lifted (os : Os) (started : os.Started) (H : Type) (enc : TypeId × Value → H) :
    ReturnsInHanded {} Tryd.checked os 3 .any (fun w args => (Rows.callOpsSpec.pre enc Tryd.prog Tryd.f3 Rows.callOpsRow.domain false w args ∧ laidMetH Tryd.prog Rows.callOpsRow.laid w) ∧ sizedMet enc Tryd.prog Tryd.f3 (OpenSpec.ofChange Rows.callOpsSpec) false w args)
      (Rows.callOpsSpec.post enc Tryd.prog Tryd.f3 false true false false) := by
  refine Go.Am.handed_shaped (C := Tryd.checked) (X := fun w _ => laidMetH Tryd.prog Rows.callOpsRow.laid w) (fun _ _ _ hh h => h.of_heap hh) own started (by kernel_rfl) Tryd.func3
    (ChangeSpec.witness_shaped (enc := enc) (C := Tryd.checked) (os := os) (X := fun w _ => laidMetH Tryd.prog Rows.callOpsRow.laid w) false (World.laidAll Tryd.prog os Rows.callOpsRow.laid)
      #[.int .i64 0, .string ByteArray.empty, .slice none 0 0, .int .i64 0] 8 (World.laidAll_os _ _ _)
      (World.shaped_of_ZipB (by kernel_rfl) (by kernel_rfl)) (by kernel_rfl) (by kernel_rfl) (by kernel_rfl)
      (by rw [MakeChecks.laidMetH_plain _ _ _ (by kernel_rfl)]; exact laidMet_laidAll _ (by kernel_rfl) (by kernel_rfl))) ?_
  intro W base args ds gs before hval0 hW hc _ hL hsh
  have hG := Go.Am.cx_glob (W := W) (by rw [MakeChecks.laidMetH_plain _ _ _ (by kernel_rfl)] at hL; exact hL) hsh
  have hval : ∀ (j : Nat) t v, Tryd.f3.params[j]? = some t → args[j]? = some v → Value.okWide Tryd.prog W .any base t v := hval0
  have hW' := hW
  obtain ⟨p, q, hA0, hV, rfl, _, _⟩ := hW
  have hA : DataW.TrodAll enc Tryd.prog W 0 (fun _ => true) true Tryd.f3.params.toList args.toList ds p := hA0
  rw [Tryd.params3] at hA hval
  obtain ⟨rfl, rfl⟩ := trodVars_none hV
  simp only [List.append_nil] at hW'
  have hpar : Tryd.f3.params.toList = [3, 9, 22, 3] := by rw [Tryd.params3]
  have hds : ∃ d1 d2 d3 d4, ds = [d1, d2, d3, d4] := by
    have := Go.Am.trodAll_lengths hA
    match ds, this with
    | [d1, d2, d3, d4], _ => exact ⟨d1, d2, d3, d4, rfl⟩
  obtain ⟨d1, d2, d3, d4, rfl⟩ := hds
  refine (Go.Am.law_argsG (C := Go.Am.cx) (k := 9) laidOut (by kernel_rfl) Go.Am.args_ops hG hA (fun j t v h1 h2 => hval j t v (by simpa using h1) (by simpa using h2))).mono fun e W' ⟨he, hg⟩ => ?_
  subst he
  exact ⟨_, rfl, Go.Am.post_grown (pa := p) (pv := []) hW' hg (fun _ _ _ => trodAll_mk1 (shut_bool Tryd.underlying4 _))
    (fun sp hs => by
      rw [hpar]
      exact Go.Am.trodAll_grown laidOut rowed (fun h1 h2 => Go.Am.slicesB_ok sliced h1 h2) hg (fun t ht => by
        have hall : ([3, 9, 22, 3].all fun t => Nat.blt t Tryd.prog.types.size) = true := by kernel_rfl
        exact Go.Am.blt_iff.1 (List.all_eq_true.1 hall t ht)) hA (fun p hp => hs p (by simpa using hp)))
    (fun _ _ => rfl) (by simp) (ok_one (by kernel_rfl) rfl (okWide_bool_mk Tryd.underlying4 _))⟩

theorem call_ops_row : Rows.CallOpsSaid :=
  OpenClaim.holds_of_wide 3 Tryd.f3 rfl rfl rfl rfl rfl rfl rfl ⟨rfl, rfl, rfl, rfl, rfl⟩ rfl rfl rfl rfl rfl (by kernel_rfl) Tryd.func3 (by kernel_rfl)
    (of_decide_eq_true (by kernel_rfl)) (by unfold Func.isWrapper; first | (rw [if_pos (by decide +kernel)]; kernel_rfl) | (rw [if_neg (by decide +kernel)]; exact ⟨rfl, rfl⟩))
    (fun os started H enc _ => call_ops_lifted os started H enc)

theorem call_ops : Rows.CallOpsCardSaid :=
  Claim7.holds_tied_plain_at .later [] [.data,  .data,  .data,  .data,  .sentinel,  .sentinel,  .pinned] true (true, "da371080cc9fb95c09af924427a77e2ec6ad1145aafd1afe23dddba95b38f15d") true
    call_ops_row (fun _ h => by cases h) (by kernel_rfl) (fun _ h => by cases h) callOps_row_tie rfl ⟨rfl, rfl⟩ (by kernel_rfl) rfl
    (fun f fn hf hfn => by
      obtain rfl : f = 3 := Option.some.inj ((show Tryd.prog.funcNamed "anchorite/anchoritelaw21.CallOps" = some 3 by kernel_rfl).symm.trans hf) |>.symm
      obtain rfl : fn = Tryd.f3 := (Option.some.inj (Tryd.func3.symm.trans hfn)).symm
      exact ⟨by kernel_rfl, fun j t ht => by
        rw [Tryd.params3] at ht
        have hm : t ∈ [3, 9, 22, 3] := by simpa using Array.mem_of_getElem? ht
        have hall : ([3, 9, 22, 3].all fun u => !Tryd.prog.wantsStandIn u) = true := by kernel_rfl
        exact (show Tryd.prog.wantsStandIn t = false by simpa using List.all_eq_true.1 hall t hm)⟩)
    (by kernel_rfl)
#print axioms call_ops
end Go.Proofs.YtikookfljnilpaaDoor
