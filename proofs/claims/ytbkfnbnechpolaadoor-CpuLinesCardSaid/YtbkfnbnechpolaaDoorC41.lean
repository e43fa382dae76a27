/- CpuLines, for any list of instructions, any state, any word: it returns true and changes nothing. -/
import Derived.Test.YtbkfnbnechpolaaDoorC40
import Derived.Test.YtbkfnbnechpolaaDoorC20
set_option linter.unusedVariables false
set_option linter.unusedSimpArgs false
namespace Go.Am
open Go Go.Proofs
set_option linter.unusedSimpArgs false
set_option linter.unusedVariables false
set_option maxHeartbeats 8000000
set_option maxRecDepth 100000

theorem argC_ins {k : Nat} {cs : List AVal} (h : ArgC Tryd.prog (k + 1) 26 cs) : ∃ i : Ins, wrapA Tryd.prog 26 cs = iv i ∧ -9223372036854775808 ≤ i.2.2.2.2 ∧ i.2.2.2.2 ≤ 9223372036854775807 := by
  unfold ArgC at h
  rw [Tryd.underlying26] at h
  obtain ⟨ps, rfl, hps⟩ := h
  cases hps with
  | cons p1 t1 =>
  cases t1 with
  | cons p2 t2 =>
  cases t2 with
  | cons p3 t3 =>
  cases t3 with
  | cons p4 t4 =>
  cases t4 with
  | cons p5 t5 =>
  cases t5
  obtain ⟨n1, rfl, h1⟩ := argC_int Tryd.underlying24 p1
  obtain ⟨n2, rfl, h2⟩ := argC_int Tryd.underlying3 p2
  obtain ⟨n3, rfl, h3⟩ := argC_int Tryd.underlying3 p3
  obtain ⟨n4, rfl, h4⟩ := argC_int Tryd.underlying3 p4
  obtain ⟨n5, rfl, h5⟩ := argC_int Tryd.underlying2 p5
  refine ⟨(n1, n2, n3, n4, n5), ?_, h5⟩
  unfold wrapA
  rw [Tryd.underlying26]
  rfl

theorem list_ins {k : Nat} : ∀ xs : List (List AVal), (∀ x ∈ xs, ArgC Tryd.prog (k + 1) 26 x) → ∃ l : List Ins, xs.map (wrapA Tryd.prog 26) = ivs l ∧ l.length = xs.length ∧ ∀ i ∈ l, -9223372036854775808 ≤ i.2.2.2.2 ∧ i.2.2.2.2 ≤ 9223372036854775807
  | [], _ => ⟨[], rfl, rfl, fun _ h => by cases h⟩
  | x :: xs, h => by
    obtain ⟨l, h1, h2, h3⟩ := list_ins xs fun y hy => h y (List.mem_cons_of_mem _ hy)
    obtain ⟨i, hi, hr⟩ := argC_ins (h x (List.mem_cons_self ..))
    refine ⟨i :: l, by rw [List.map_cons, h1, hi]; rfl, by simp [h2], fun u hu => ?_⟩
    rcases List.mem_cons.1 hu with rfl | hu
    · exact hr
    · exact h3 u hu

/-- A list of instructions. -/
theorem arg_inss {v : AVal} (h : ArgV Tryd.prog 9 65 v) : ∃ (nl : Bool) (l : List Ins), v = .sl 5 nl (ivs l) .any ∧ (∀ i ∈ l, -9223372036854775808 ≤ i.2.2.2.2 ∧ i.2.2.2.2 ≤ 9223372036854775807) ∧ l.length ≤ 9223372036854775807 ∧ (nl = true → l = []) := by
  obtain ⟨cs, rfl, hc⟩ := h
  unfold ArgC at hc
  rw [Tryd.underlying65] at hc
  obtain ⟨nl, xs, rfl, hn, hl, hx⟩ := hc
  obtain ⟨l, h1, h2, h3⟩ := list_ins xs hx
  refine ⟨nl, l, ?_, h3, by rw [h2]; exact hl, fun h => ?_⟩
  · unfold wrapA
    rw [Tryd.underlying65]
    show AVal.sl (Tryd.prog.cellsOf 26) nl (xs.map (wrapA Tryd.prog 26)) .any = _
    rw [h1, show Tryd.prog.cellsOf 26 = 5 by kernel_rfl]
  · have := hn h
    subst this
    simpa using h2

theorem args_lines (avs : List AVal) (h : All2 (ArgV Tryd.prog 9) [65, 38, 22] avs) : APure cx 8 avs (.bool true) := by
  cases h with
  | cons h1 t =>
    cases t with
    | cons h2 t =>
      cases t with
      | cons h3 t =>
        cases t
        obtain ⟨nl, l, rfl, hi, hl, hn⟩ := arg_inss h1
        obtain ⟨L, rfl, hL, hw⟩ := arg_cpu h2
        obtain ⟨x, rfl, hx⟩ := arg_word h3
        exact law_lines L x nl l hL hw hx hi hl hn
end Go.Am
namespace Go.Proofs.YtbkfnbnechpolaaDoor
open Go.ChangeShapes Go.WideShapes Go.ChangeAt Go.RowKit

set_option maxRecDepth 100000 in
theorem cpu_lines_lifted (os : Os) (started : os.Started) (H : Type) (enc : TypeId × Value → H) :
    ReturnsInHanded {} Tryd.checked os 8 .any (fun w args => (Rows.cpuLinesSpec.pre enc Tryd.prog Tryd.f8 Rows.cpuLinesRow.domain false w args ∧ laidMetH Tryd.prog Rows.cpuLinesRow.laid w) ∧ sizedMet enc Tryd.prog Tryd.f8 (OpenSpec.ofChange Rows.cpuLinesSpec) false w args)
      (Rows.cpuLinesSpec.post enc Tryd.prog Tryd.f8 false true false false) := by
  refine Go.Am.handed_shaped (C := Tryd.checked) (X := fun w _ => laidMetH Tryd.prog Rows.cpuLinesRow.laid w) (fun _ _ _ hh h => h.of_heap hh) own started (by kernel_rfl) Tryd.func8
    (ChangeSpec.witness_shaped (enc := enc) (C := Tryd.checked) (os := os) (X := fun w _ => laidMetH Tryd.prog Rows.cpuLinesRow.laid w) false (World.laidAll Tryd.prog os Rows.cpuLinesRow.laid)
      #[.slice none 0 0, .agg #[.int .u64 0, .int .u64 0, .int .u64 0, .int .u64 0, .int .u64 0, .int .u64 0, .int .u64 0, .int .u64 0, .int .u64 0], .int .u64 0] 8 (World.laidAll_os _ _ _)
      (World.shaped_of_ZipB (by kernel_rfl) (by kernel_rfl)) (by kernel_rfl) (by kernel_rfl) (by kernel_rfl)
      (by rw [MakeChecks.laidMetH_plain _ _ _ (by kernel_rfl)]; exact laidMet_laidAll _ (by kernel_rfl) (by kernel_rfl))) ?_
  intro W base args ds gs before hval0 hW hc _ hL hsh
  have hG := Go.Am.cx_glob (W := W) (by rw [MakeChecks.laidMetH_plain _ _ _ (by kernel_rfl)] at hL; exact hL) hsh
  have hval : ∀ (j : Nat) t v, Tryd.f8.params[j]? = some t → args[j]? = some v → Value.okWide Tryd.prog W .any base t v := hval0
  have hW' := hW
  obtain ⟨p, q, hA0, hV, rfl, _, _⟩ := hW
  have hA : DataW.TrodAll enc Tryd.prog W 0 (fun _ => true) true Tryd.f8.params.toList args.toList ds p := hA0
  rw [Tryd.params8] at hA hval
  obtain ⟨rfl, rfl⟩ := trodVars_none hV
  simp only [List.append_nil] at hW'
  have hpar : Tryd.f8.params.toList = [65, 38, 22] := by rw [Tryd.params8]
  have hds : ∃ d1 d2 d3, ds = [d1, d2, d3] := by
    have := Go.Am.trodAll_lengths hA
    match ds, this with
    | [d1, d2, d3], _ => exact ⟨d1, d2, d3, rfl⟩
  obtain ⟨d1, d2, d3, rfl⟩ := hds
  refine (Go.Am.law_argsG (C := Go.Am.cx) (k := 9) laidOut (by kernel_rfl) Go.Am.args_lines hG hA (fun j t v h1 h2 => hval j t v (by simpa using h1) (by simpa using h2))).mono fun e W' ⟨he, hg⟩ => ?_
  subst he
  exact ⟨_, rfl, Go.Am.post_grown (pa := p) (pv := []) hW' hg (fun _ _ _ => trodAll_mk1 (shut_bool Tryd.underlying4 _))
    (fun sp hs => by
      rw [hpar]
      exact Go.Am.trodAll_grown laidOut rowed (fun h1 h2 => Go.Am.slicesB_ok sliced h1 h2) hg (fun t ht => by
        have hall : ([65, 38, 22].all fun t => Nat.blt t Tryd.prog.types.size) = true := by kernel_rfl
        exact Go.Am.blt_iff.1 (List.all_eq_true.1 hall t ht)) hA (fun p hp => hs p (by simpa using hp)))
    (fun _ _ => rfl) (by simp) (ok_one (by kernel_rfl) rfl (okWide_bool_mk Tryd.underlying4 _))⟩

theorem cpu_lines_row : Rows.CpuLinesSaid :=
  OpenClaim.holds_of_wide 8 Tryd.f8 rfl rfl rfl rfl rfl rfl rfl ⟨rfl, rfl, rfl, rfl, rfl⟩ rfl rfl rfl rfl rfl (by kernel_rfl) Tryd.func8 (by kernel_rfl)
    (of_decide_eq_true (by kernel_rfl)) (by unfold Func.isWrapper; first | (rw [if_pos (by decide +kernel)]; kernel_rfl) | (rw [if_neg (by decide +kernel)]; exact ⟨rfl, rfl⟩))
    (fun os started H enc _ => cpu_lines_lifted os started H enc)

theorem cpu_lines : Rows.CpuLinesCardSaid :=
  Claim7.holds_tied_plain_at .later [] [.data, .data, .data, .data, .sentinel, .sentinel, .pinned] true (true, "29e71d8a8da9ccafa28f71737d4af864240c045c90a8fc056b710aef07ac07d7") true
    cpu_lines_row (fun _ h => by cases h) (by kernel_rfl) (fun _ h => by cases h) cpuLines_row_tie rfl ⟨rfl, rfl⟩ (by kernel_rfl) rfl
    (fun f fn hf hfn => by
      obtain rfl : f = 8 := Option.some.inj ((show Tryd.prog.funcNamed "anchorite/anchoritelaw13.CpuLines" = some 8 by kernel_rfl).symm.trans hf) |>.symm
      obtain rfl : fn = Tryd.f8 := (Option.some.inj (Tryd.func8.symm.trans hfn)).symm
      exact ⟨by kernel_rfl, fun j t ht => by
        rw [Tryd.params8] at ht
        have hm : t ∈ [65, 38, 22] := by simpa using Array.mem_of_getElem? ht
        have hall : ([65, 38, 22].all fun u => !Tryd.prog.wantsStandIn u) = true := by kernel_rfl
        exact (show Tryd.prog.wantsStandIn t = false by simpa using List.all_eq_true.1 hall t hm)⟩)
    (by kernel_rfl)
#print axioms cpu_lines
end Go.Proofs.YtbkfnbnechpolaaDoor
