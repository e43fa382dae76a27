/- CpuDoes, for every state, any instruction, any word: it returns true and changes nothing. No condition. -/
import Derived.Test.YtbkfnbnechpolaaDoorC16
import Derived.Test.YtbkfnbnechpolaaDoorAmArg
import Derived.Test.YtbkfnbnechpolaaDoorRows
import Derived.Test.YtbkfnbnechpolaaDoorTie
import Derived.Test.YtbkfnbnechpolaaDoorCards
import Derived.ProofKit
import Derived.LaidMore
import Derived.Lay
import Derived.OpenShut
import Derived.Stop.Joined
import Derived.SevenTiedAt
set_option linter.unusedVariables false
set_option linter.unusedSimpArgs false
namespace Go.Am
open Go Go.Proofs
set_option maxRecDepth 100000

/-- A cell that is a number of a kind. -/
theorem argC_int {P : Program} {k : Nat} {t : TypeId} {q : IntKind} {cs : List AVal} (hu : P.underlying t = some (.int q)) (h : ArgC P k t cs) : ∃ n : Int, cs = [.int q n] ∧ q.min ≤ n ∧ n ≤ q.max := by
  cases k with
  | zero => exact h.elim
  | succ k =>
    unfold ArgC at h
    rw [hu] at h
    obtain ⟨n, rfl, hw⟩ := h
    refine ⟨n, rfl, ?_⟩
    simpa [Lit.wf] using hw
theorem flat_words : ∀ (ps : List (List AVal)), (∀ p ∈ ps, ∃ n : Int, p = [.int .u64 n] ∧ 0 ≤ n ∧ n ≤ 18446744073709551615) →
    ∃ L : List Int, L.length = ps.length ∧ ps.flatten = L.map (fun n => AVal.int .u64 n) ∧ ∀ n ∈ L, 0 ≤ n ∧ n ≤ 18446744073709551615
  | [], _ => ⟨[], rfl, rfl, fun n h => by cases h⟩
  | p :: ps, h => by
    obtain ⟨n, rfl, hn⟩ := h p (by simp)
    obtain ⟨L, hl, hf, hr⟩ := flat_words ps (fun p hp => h p (by simp [hp]))
    refine ⟨n :: L, by simp [hl], by simp [hf], fun m hm => ?_⟩
    rcases List.mem_cons.1 hm with rfl | hm
    · exact hn
    · exact hr m hm

/-- A state of the processor. -/
theorem arg_cpu {v : AVal} (h : ArgV Tryd.prog 9 38 v) : ∃ L : List Int, v = .agg (ws L) ∧ L.length = 9 ∧ ∀ n ∈ L, 0 ≤ n ∧ n ≤ 18446744073709551615 := by
  obtain ⟨cs, rfl, hc⟩ := h
  unfold ArgC at hc
  rw [Tryd.underlying38] at hc
  obtain ⟨ps, rfl, hps⟩ := hc
  cases hps with
  | cons p1 t1 =>
    cases t1 with
    | cons p2 t2 =>
      cases t2
      unfold ArgC at p1
      rw [Tryd.underlying36] at p1
      obtain ⟨qs, rfl, hl, hq⟩ := p1
      obtain ⟨pc, rfl, hpc⟩ := argC_int Tryd.underlying22 p2
      obtain ⟨L, hL, hf, hr⟩ := flat_words qs (fun p hp => argC_int Tryd.underlying22 (hq p hp))
      refine ⟨L ++ [pc], ?_, by simp [hL, hl], fun n hn => ?_⟩
      · unfold wrapA
        rw [Tryd.underlying38]
        simp [hf, ws]
      · rcases List.mem_append.1 hn with hn | hn
        · exact hr n hn
        · obtain rfl := List.mem_singleton.1 hn
          exact hpc

/-- An instruction. -/
theorem arg_ins {v : AVal} (h : ArgV Tryd.prog 9 26 v) : ∃ op d a b imm : Int, v = .agg [.int .i64 op, .int .i64 d, .int .i64 a, .int .i64 b, .int .i64 imm] ∧ (-9223372036854775808 ≤ op ∧ op ≤ 9223372036854775807) ∧ (-9223372036854775808 ≤ d ∧ d ≤ 9223372036854775807) ∧
    (-9223372036854775808 ≤ a ∧ a ≤ 9223372036854775807) ∧ (-9223372036854775808 ≤ b ∧ b ≤ 9223372036854775807) ∧ -9223372036854775808 ≤ imm ∧ imm ≤ 9223372036854775807 := by
  obtain ⟨cs, rfl, hc⟩ := h
  unfold ArgC at hc
  rw [Tryd.underlying26] at hc
  obtain ⟨ps, rfl, hps⟩ := hc
  cases hps with
  | cons p1 t1 =>
  cases t1 with
  | cons p2 t2 =>
  cases t2 with
  | cons p3 t3 =>
  cases t3 with
  | cons p4 t4 =>
  cases t4 with
  | cons p5 t5 =>
  cases t5
  obtain ⟨n1, rfl, h1⟩ := argC_int Tryd.underlying24 p1
  obtain ⟨n2, rfl, h2⟩ := argC_int Tryd.underlying3 p2
  obtain ⟨n3, rfl, h3⟩ := argC_int Tryd.underlying3 p3
  obtain ⟨n4, rfl, h4⟩ := argC_int Tryd.underlying3 p4
  obtain ⟨n5, rfl, h5⟩ := argC_int Tryd.underlying2 p5
  refine ⟨n1, n2, n3, n4, n5, ?_, h1, h2, h3, h4, h5⟩
  unfold wrapA
  rw [Tryd.underlying26]
  rfl

theorem arg_word {v : AVal} (h : ArgV Tryd.prog 9 22 v) : ∃ n : Int, v = .int .u64 n ∧ 0 ≤ n ∧ n ≤ 18446744073709551615 := by
  obtain ⟨cs, rfl, hc⟩ := h
  obtain ⟨n, rfl, hn⟩ := argC_int Tryd.underlying22 hc
  refine ⟨n, ?_, hn⟩
  unfold wrapA
  rw [Tryd.underlying22]
  rfl

theorem args_does (avs : List AVal) (h : All2 (ArgV Tryd.prog 9) [38, 26, 22] avs) : APure cx 4 avs (.bool true) := by
  cases h with
  | cons h1 t =>
    cases t with
    | cons h2 t =>
      cases t with
      | cons h3 t =>
        cases t
        obtain ⟨L, rfl, hL, hw⟩ := arg_cpu h1
        obtain ⟨op, d, a, b, imm, rfl, _, _, _, _, i0, i1⟩ := arg_ins h2
        obtain ⟨ld, rfl, _⟩ := arg_word h3
        exact law_does L op d a b imm ld hL hw i0 i1

theorem trodAll_lengths {H : Type} {enc : TypeId × Value → H} {P : Program} {w : World} {base : Nat} {sp : Nat → Bool} {hd : Bool} : ∀ {ts : List TypeId} {vs : List Value} {ds : List (DataW H)} {ps : List MemPlace}, DataW.TrodAll enc P w base sp hd ts vs ds ps → ds.length = ts.length
  | [], [], [], _, _ => rfl
  | t :: ts, v :: vs, d :: ds, _, h => by
    obtain ⟨p, q, _, h2, _⟩ := h
    simp [trodAll_lengths h2]
  | [], [], _ :: _, _, h => h.elim
  | _ :: _, [], _, _, h => h.elim
  | [], _ :: _, _, _, h => h.elim
  | _ :: _, _ :: _, [], _, h => h.elim

/-- The elements of slices have cells. -/
def slicesB (P : Program) : Bool := (List.range P.types.size).all fun t => match P.underlying t with
  | some (.slice e) => Nat.blt 0 (P.cellsOf e)
  | _ => true
theorem slicesB_ok {P : Program} (h : slicesB P = true) {t e : TypeId} (ht : t < P.types.size) (he : P.underlying t = some (.slice e)) : 0 < P.cellsOf e := by
  have := List.all_eq_true.1 h t (List.mem_range.2 ht)
  rw [he] at this
  exact blt_iff.1 this
end Go.Am
namespace Go.Proofs.YtbkfnbnechpolaaDoor
open Go.ChangeShapes Go.WideShapes Go.ChangeAt Go.RowKit

theorem own : ownKnob Tryd.prog.godebug = none := by kernel_rfl
theorem laidOut : laidOutB Tryd.prog = true := by kernel_rfl
theorem rowed : mapsRowed Tryd.prog = true := by kernel_rfl
theorem sliced : Go.Am.slicesB Tryd.prog = true := by kernel_rfl

set_option maxRecDepth 100000 in
theorem cpu_does_lifted (os : Os) (started : os.Started) (H : Type) (enc : TypeId × Value → H) :
    ReturnsInHanded {} Tryd.checked os 4 .any (fun w args => (Rows.cpuDoesSpec.pre enc Tryd.prog Tryd.f4 Rows.cpuDoesRow.domain false w args ∧ laidMetH Tryd.prog Rows.cpuDoesRow.laid w) ∧ sizedMet enc Tryd.prog Tryd.f4 (OpenSpec.ofChange Rows.cpuDoesSpec) false w args)
      (Rows.cpuDoesSpec.post enc Tryd.prog Tryd.f4 false true false false) := by
  refine returnsInHanded_of_change_and (C := Tryd.checked) (X := fun w _ => laidMetH Tryd.prog Rows.cpuDoesRow.laid w) (fun _ _ _ hh h => h.of_heap hh) own started (by kernel_rfl) Tryd.func4
    (ChangeSpec.witness_shaped (enc := enc) (C := Tryd.checked) (os := os) (X := fun w _ => laidMetH Tryd.prog Rows.cpuDoesRow.laid w) false (World.laidAll Tryd.prog os Rows.cpuDoesRow.laid)
      #[.agg #[.int .u64 0, .int .u64 0, .int .u64 0, .int .u64 0, .int .u64 0, .int .u64 0, .int .u64 0, .int .u64 0, .int .u64 0], .agg #[.int .i64 0, .int .i64 0, .int .i64 0, .int .i64 0, .int .i64 0], .int .u64 0] 8 (World.laidAll_os _ _ _)
      (World.shaped_of_ZipB (by kernel_rfl) (by kernel_rfl)) (by kernel_rfl) (by kernel_rfl) (by kernel_rfl)
      (by rw [MakeChecks.laidMetH_plain _ _ _ (by kernel_rfl)]; exact laidMet_laidAll _ (by kernel_rfl) (by kernel_rfl))) ?_
  intro W base args ds gs before hval0 hW hc _ hL _
  have hval : ∀ (j : Nat) t v, Tryd.f4.params[j]? = some t → args[j]? = some v → Value.okWide Tryd.prog W .any base t v := hval0
  have hW' := hW
  obtain ⟨p, q, hA0, hV, rfl, _, _⟩ := hW
  have hA : DataW.TrodAll enc Tryd.prog W 0 (fun _ => true) true Tryd.f4.params.toList args.toList ds p := hA0
  rw [Tryd.params4] at hA hval
  obtain ⟨rfl, rfl⟩ := trodVars_none hV
  simp only [List.append_nil] at hW'
  have hpar : Tryd.f4.params.toList = [38, 26, 22] := by rw [Tryd.params4]
  have hds : ∃ d1 d2 d3, ds = [d1, d2, d3] := by
    have := Go.Am.trodAll_lengths hA
    match ds, this with
    | [d1, d2, d3], _ => exact ⟨d1, d2, d3, rfl⟩
  obtain ⟨d1, d2, d3, rfl⟩ := hds
  refine (Go.Am.law_args (C := Go.Am.cx) (k := 9) (fun _ _ h => by cases h) laidOut (by kernel_rfl) Go.Am.args_does hA (fun j t v h1 h2 => hval j t v (by simpa using h1) (by simpa using h2))).mono fun e W' ⟨he, hg⟩ => ?_
  subst he
  exact ⟨_, rfl, Go.Am.post_grown (pa := p) (pv := []) hW' hg (fun _ _ _ => trodAll_mk1 (shut_bool Tryd.underlying4 _))
    (fun sp hs => by
      rw [hpar]
      exact Go.Am.trodAll_grown laidOut rowed (fun h1 h2 => Go.Am.slicesB_ok sliced h1 h2) hg (fun t ht => by
        have hall : ([38, 26, 22].all fun t => Nat.blt t Tryd.prog.types.size) = true := by kernel_rfl
        exact Go.Am.blt_iff.1 (List.all_eq_true.1 hall t ht)) hA (fun p hp => hs p (by simpa using hp)))
    (fun _ _ => rfl) (by simp) (ok_one (by kernel_rfl) rfl (okWide_bool_mk Tryd.underlying4 _))⟩

theorem cpu_does_row : Rows.CpuDoesSaid :=
  OpenClaim.holds_of_wide 4 Tryd.f4 rfl rfl rfl rfl rfl rfl rfl ⟨rfl, rfl, rfl, rfl, rfl⟩ rfl rfl rfl rfl rfl (by kernel_rfl) Tryd.func4 (by kernel_rfl)
    (of_decide_eq_true (by kernel_rfl)) (by unfold Func.isWrapper; first | (rw [if_pos (by decide +kernel)]; kernel_rfl) | (rw [if_neg (by decide +kernel)]; exact ⟨rfl, rfl⟩))
    (fun os started H enc _ => cpu_does_lifted os started H enc)

theorem cpu_does : Rows.CpuDoesCardSaid :=
  Claim7.holds_tied_plain_at .later [] [.data, .data, .data, .data, .sentinel, .sentinel, .pinned] true (true, "29e71d8a8da9ccafa28f71737d4af864240c045c90a8fc056b710aef07ac07d7") true
    cpu_does_row (fun _ h => by cases h) (by kernel_rfl) (fun _ h => by cases h) cpuDoes_row_tie rfl ⟨rfl, rfl⟩ (by kernel_rfl) rfl
    (fun f fn hf hfn => by
      obtain rfl : f = 4 := Option.some.inj ((show Tryd.prog.funcNamed "anchorite/anchoritelaw13.CpuDoes" = some 4 by kernel_rfl).symm.trans hf) |>.symm
      obtain rfl : fn = Tryd.f4 := (Option.some.inj (Tryd.func4.symm.trans hfn)).symm
      exact ⟨by kernel_rfl, fun j t ht => by
        rw [Tryd.params4] at ht
        have hm : t ∈ [38, 26, 22] := by simpa using Array.mem_of_getElem? ht
        have hall : ([38, 26, 22].all fun u => !Tryd.prog.wantsStandIn u) = true := by kernel_rfl
        exact (show Tryd.prog.wantsStandIn t = false by simpa using List.all_eq_true.1 hall t hm)⟩)
    (by kernel_rfl)
#print axioms cpu_does
end Go.Proofs.YtbkfnbnechpolaaDoor
