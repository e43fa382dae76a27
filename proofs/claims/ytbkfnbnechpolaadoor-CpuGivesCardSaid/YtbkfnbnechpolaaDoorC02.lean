/- CpuGives, for every state, any number, any word: it returns true and changes nothing. No condition. -/
import Derived.Test.YtbkfnbnechpolaaDoorC01
import Derived.Test.YtbkfnbnechpolaaDoorAmArg
import Derived.Test.YtbkfnbnechpolaaDoorRows
import Derived.Test.YtbkfnbnechpolaaDoorTie
import Derived.Test.YtbkfnbnechpolaaDoorCards
import Derived.ProofKit
import Derived.LaidMore
import Derived.Lay
import Derived.OpenShut
import Derived.Stop.Joined
import Derived.SevenTiedAt
set_option linter.unusedVariables false
set_option linter.unusedSimpArgs false
namespace Go.Am
open Go Go.Proofs
set_option maxRecDepth 100000

theorem eight {α : Type} {l : List α} (h : l.length = 8) : ∃ a b c d e f g i, l = [a, b, c, d, e, f, g, i] := by
  match l, h with
  | [a, b, c, d, e, f, g, i], _ => exact ⟨a, b, c, d, e, f, g, i, rfl⟩

theorem args_gives (avs : List AVal) (h : All2 (ArgV Tryd.prog 9) [38, 3, 22] avs) : APure cx 6 avs (.bool true) := by
  cases h with
  | cons h1 t =>
    cases t with
    | cons h2 t =>
      cases t with
      | cons h3 t =>
        cases t
        obtain ⟨cs, rfl, hc⟩ := h1
        obtain ⟨ns, rfl, hn⟩ := h2
        obtain ⟨ms, rfl, hm⟩ := h3
        unfold ArgC at hn hm hc
        rw [Tryd.underlying3] at hn
        rw [Tryd.underlying22] at hm
        rw [Tryd.underlying38] at hc
        obtain ⟨reg, rfl, _⟩ := hn
        obtain ⟨x, rfl, _⟩ := hm
        obtain ⟨ps, rfl, hps⟩ := hc
        cases hps with
        | cons p1 t1 =>
          cases t1 with
          | cons p2 t2 =>
            cases t2
            unfold ArgC at p1 p2
            rw [Tryd.underlying36] at p1
            rw [Tryd.underlying22] at p2
            obtain ⟨qs, rfl, hl, hq⟩ := p1
            obtain ⟨pc, rfl, _⟩ := p2
            obtain ⟨q1, q2, q3, q4, q5, q6, q7, q8, rfl⟩ := eight hl
            have one : ∀ q ∈ [q1, q2, q3, q4, q5, q6, q7, q8], ∃ n : Int, q = [.int .u64 n] := fun q hm => by
              have := hq q hm
              unfold ArgC at this
              rw [Tryd.underlying22] at this
              obtain ⟨n, e, _⟩ := this
              exact ⟨n, e⟩
            obtain ⟨a, rfl⟩ := one q1 (by simp)
            obtain ⟨b, rfl⟩ := one q2 (by simp)
            obtain ⟨c, rfl⟩ := one q3 (by simp)
            obtain ⟨d, rfl⟩ := one q4 (by simp)
            obtain ⟨e, rfl⟩ := one q5 (by simp)
            obtain ⟨f, rfl⟩ := one q6 (by simp)
            obtain ⟨g, rfl⟩ := one q7 (by simp)
            obtain ⟨i, rfl⟩ := one q8 (by simp)
            have := law_gives a b c d e f g i pc x reg
            unfold wrapA
            rw [Tryd.underlying38, Tryd.underlying3, Tryd.underlying22]
            exact this

theorem trodAll_lengths {H : Type} {enc : TypeId × Value → H} {P : Program} {w : World} {base : Nat} {sp : Nat → Bool} {hd : Bool} : ∀ {ts : List TypeId} {vs : List Value} {ds : List (DataW H)} {ps : List MemPlace}, DataW.TrodAll enc P w base sp hd ts vs ds ps → ds.length = ts.length
  | [], [], [], _, _ => rfl
  | t :: ts, v :: vs, d :: ds, _, h => by
    obtain ⟨p, q, _, h2, _⟩ := h
    simp [trodAll_lengths h2]
  | [], [], _ :: _, _, h => h.elim
  | [], _ :: _, _, _, h => h.elim
  | _ :: _, [], _, _, h => h.elim
  | _ :: _, _ :: _, [], _, h => h.elim

/-- The elements of slices have cells. -/
def slicesB (P : Program) : Bool := (List.range P.types.size).all fun t => match P.underlying t with
  | some (.slice e) => Nat.blt 0 (P.cellsOf e)
  | _ => true
theorem slicesB_ok {P : Program} (h : slicesB P = true) {t e : TypeId} (ht : t < P.types.size) (he : P.underlying t = some (.slice e)) : 0 < P.cellsOf e := by
  have := List.all_eq_true.1 h t (List.mem_range.2 ht)
  rw [he] at this
  exact blt_iff.1 this
end Go.Am
namespace Go.Proofs.YtbkfnbnechpolaaDoor
open Go.ChangeShapes Go.WideShapes Go.ChangeAt Go.RowKit

theorem own : ownKnob Tryd.prog.godebug = none := by kernel_rfl
theorem laidOut : laidOutB Tryd.prog = true := by kernel_rfl
theorem rowed : mapsRowed Tryd.prog = true := by kernel_rfl
theorem sliced : Go.Am.slicesB Tryd.prog = true := by kernel_rfl

set_option maxRecDepth 100000 in
theorem gives_lifted (os : Os) (started : os.Started) (H : Type) (enc : TypeId × Value → H) :
    ReturnsInHanded {} Tryd.checked os 6 .any (fun w args => (Rows.cpuGivesSpec.pre enc Tryd.prog Tryd.f6 Rows.cpuGivesRow.domain false w args ∧ laidMetH Tryd.prog Rows.cpuGivesRow.laid w) ∧ sizedMet enc Tryd.prog Tryd.f6 (OpenSpec.ofChange Rows.cpuGivesSpec) false w args)
      (Rows.cpuGivesSpec.post enc Tryd.prog Tryd.f6 false true false false) := by
  refine returnsInHanded_of_change_and (C := Tryd.checked) (X := fun w _ => laidMetH Tryd.prog Rows.cpuGivesRow.laid w) (fun _ _ _ hh h => h.of_heap hh) own started (by kernel_rfl) Tryd.func6
    (ChangeSpec.witness_shaped (enc := enc) (C := Tryd.checked) (os := os) (X := fun w _ => laidMetH Tryd.prog Rows.cpuGivesRow.laid w) false (World.laidAll Tryd.prog os Rows.cpuGivesRow.laid)
      #[.agg #[.int .u64 0, .int .u64 0, .int .u64 0, .int .u64 0, .int .u64 0, .int .u64 0, .int .u64 0, .int .u64 0, .int .u64 0], .int .i64 0, .int .u64 0] 8 (World.laidAll_os _ _ _)
      (World.shaped_of_ZipB (by kernel_rfl) (by kernel_rfl)) (by kernel_rfl) (by kernel_rfl) (by kernel_rfl)
      (by rw [MakeChecks.laidMetH_plain _ _ _ (by kernel_rfl)]; exact laidMet_laidAll _ (by kernel_rfl) (by kernel_rfl))) ?_
  intro W base args ds gs before hval0 hW hc _ hL _
  have hval : ∀ (j : Nat) t v, Tryd.f6.params[j]? = some t → args[j]? = some v → Value.okWide Tryd.prog W .any base t v := hval0
  have hW' := hW
  obtain ⟨p, q, hA0, hV, rfl, _, _⟩ := hW
  have hA : DataW.TrodAll enc Tryd.prog W 0 (fun _ => true) true Tryd.f6.params.toList args.toList ds p := hA0
  rw [Tryd.params6] at hA hval
  obtain ⟨rfl, rfl⟩ := trodVars_none hV
  simp only [List.append_nil] at hW'
  have hpar : Tryd.f6.params.toList = [38, 3, 22] := by rw [Tryd.params6]
  have hds : ∃ d1 d2 d3, ds = [d1, d2, d3] := by
    have := Go.Am.trodAll_lengths hA
    match ds, this with
    | [d1, d2, d3], _ => exact ⟨d1, d2, d3, rfl⟩
  obtain ⟨d1, d2, d3, rfl⟩ := hds
  refine (Go.Am.law_args (C := Go.Am.cx) (k := 9) (fun _ _ h => by cases h) laidOut (by kernel_rfl) Go.Am.args_gives hA (fun j t v h1 h2 => hval j t v (by simpa using h1) (by simpa using h2))).mono fun e W' ⟨he, hg⟩ => ?_
  subst he
  exact ⟨_, rfl, Go.Am.post_grown (pa := p) (pv := []) hW' hg (fun _ _ _ => trodAll_mk1 (shut_bool Tryd.underlying4 _))
    (fun sp hs => by
      rw [hpar]
      exact Go.Am.trodAll_grown laidOut rowed (fun h1 h2 => Go.Am.slicesB_ok sliced h1 h2) hg (fun t ht => by
        have hall : ([38, 3, 22].all fun t => Nat.blt t Tryd.prog.types.size) = true := by kernel_rfl
        exact Go.Am.blt_iff.1 (List.all_eq_true.1 hall t ht)) hA (fun p hp => hs p (by simpa using hp)))
    (fun _ _ => rfl) (by simp) (ok_one (by kernel_rfl) rfl (okWide_bool_mk Tryd.underlying4 _))⟩

theorem cpu_gives_row : Rows.CpuGivesSaid :=
  OpenClaim.holds_of_wide 6 Tryd.f6 rfl rfl rfl rfl rfl rfl rfl ⟨rfl, rfl, rfl, rfl, rfl⟩ rfl rfl rfl rfl rfl (by kernel_rfl) Tryd.func6 (by kernel_rfl)
    (of_decide_eq_true (by kernel_rfl)) (by unfold Func.isWrapper; first | (rw [if_pos (by decide +kernel)]; kernel_rfl) | (rw [if_neg (by decide +kernel)]; exact ⟨rfl, rfl⟩))
    (fun os started H enc _ => gives_lifted os started H enc)

theorem cpu_gives : Rows.CpuGivesCardSaid :=
  Claim7.holds_tied_plain_at .later [] [.data, .data, .data, .data, .sentinel, .sentinel, .pinned] true (true, "29e71d8a8da9ccafa28f71737d4af864240c045c90a8fc056b710aef07ac07d7") true
    cpu_gives_row (fun _ h => by cases h) (by kernel_rfl) (fun _ h => by cases h) cpuGives_row_tie rfl ⟨rfl, rfl⟩ (by kernel_rfl) rfl
    (fun f fn hf hfn => by
      obtain rfl : f = 6 := Option.some.inj ((show Tryd.prog.funcNamed "anchorite/anchoritelaw13.CpuGives" = some 6 by kernel_rfl).symm.trans hf) |>.symm
      obtain rfl : fn = Tryd.f6 := (Option.some.inj (Tryd.func6.symm.trans hfn)).symm
      exact ⟨by kernel_rfl, fun j t ht => by
        rw [Tryd.params6] at ht
        have hm : t ∈ [38, 3, 22] := by simpa using Array.mem_of_getElem? ht
        have hall : ([38, 3, 22].all fun u => !Tryd.prog.wantsStandIn u) = true := by kernel_rfl
        exact (show Tryd.prog.wantsStandIn t = false by simpa using List.all_eq_true.1 hall t hm)⟩)
    (by kernel_rfl)
#print axioms cpu_gives
end Go.Proofs.YtbkfnbnechpolaaDoor
