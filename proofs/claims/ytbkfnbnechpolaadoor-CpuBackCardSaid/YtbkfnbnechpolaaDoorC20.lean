/- Arguments of the chapter's laws; the program's variables that are known. -/
import Derived.Test.YtbkfnbnechpolaaDoorTrydEx
import Derived.Test.YtbkfnbnechpolaaDoorAmShelf
import Derived.Test.YtbkfnbnechpolaaDoorRows
import Derived.Test.YtbkfnbnechpolaaDoorTie
import Derived.Test.YtbkfnbnechpolaaDoorCards
import Derived.ProofKit
import Derived.LaidMore
import Derived.Lay
import Derived.OpenShut
import Derived.Stop.Joined
import Derived.SevenTiedAt
import Derived.Test.YtbkfnbnechpolaaDoorC33
import Derived.Test.YtbkfnbnechpolaaDoorC07
section
set_option linter.unusedVariables false
set_option linter.unusedSimpArgs false
namespace Go.Am
open Go Go.Proofs Go.Proofs.YtbkfnbnechpolaaDoor
set_option maxRecDepth 100000

/-- A cell that is a number of a kind. -/
theorem argC_int {P : Program} {k : Nat} {t : TypeId} {q : IntKind} {cs : List AVal} (hu : P.underlying t = some (.int q)) (h : ArgC P k t cs) : ∃ n : Int, cs = [.int q n] ∧ q.min ≤ n ∧ n ≤ q.max := by
  cases k with
  | zero => exact h.elim
  | succ k =>
    unfold ArgC at h
    rw [hu] at h
    obtain ⟨n, rfl, hw⟩ := h
    refine ⟨n, rfl, ?_⟩
    simpa [Lit.wf] using hw
/-- An instruction. -/
theorem arg_ins {v : AVal} (h : ArgV Tryd.prog 9 26 v) : ∃ op d a b imm : Int, v = .agg [.int .i64 op, .int .i64 d, .int .i64 a, .int .i64 b, .int .i64 imm] ∧ (-9223372036854775808 ≤ op ∧ op ≤ 9223372036854775807) ∧ (-9223372036854775808 ≤ d ∧ d ≤ 9223372036854775807) ∧
    (-9223372036854775808 ≤ a ∧ a ≤ 9223372036854775807) ∧ (-9223372036854775808 ≤ b ∧ b ≤ 9223372036854775807) ∧ -9223372036854775808 ≤ imm ∧ imm ≤ 9223372036854775807 := by
  obtain ⟨cs, rfl, hc⟩ := h
  unfold ArgC at hc
  rw [Tryd.underlying26] at hc
  obtain ⟨ps, rfl, hps⟩ := hc
  cases hps with
  | cons p1 t1 =>
  cases t1 with
  | cons p2 t2 =>
  cases t2 with
  | cons p3 t3 =>
  cases t3 with
  | cons p4 t4 =>
  cases t4 with
  | cons p5 t5 =>
  cases t5
  obtain ⟨n1, rfl, h1⟩ := argC_int Tryd.underlying24 p1
  obtain ⟨n2, rfl, h2⟩ := argC_int Tryd.underlying3 p2
  obtain ⟨n3, rfl, h3⟩ := argC_int Tryd.underlying3 p3
  obtain ⟨n4, rfl, h4⟩ := argC_int Tryd.underlying3 p4
  obtain ⟨n5, rfl, h5⟩ := argC_int Tryd.underlying2 p5
  refine ⟨n1, n2, n3, n4, n5, ?_, h1, h2, h3, h4, h5⟩
  unfold wrapA
  rw [Tryd.underlying26]
  rfl

theorem arg_word {v : AVal} (h : ArgV Tryd.prog 9 22 v) : ∃ n : Int, v = .int .u64 n ∧ 0 ≤ n ∧ n ≤ 18446744073709551615 := by
  obtain ⟨cs, rfl, hc⟩ := h
  obtain ⟨n, rfl, hn⟩ := argC_int Tryd.underlying22 hc
  refine ⟨n, ?_, hn⟩
  unfold wrapA
  rw [Tryd.underlying22]
  rfl

theorem trodAll_lengths {H : Type} {enc : TypeId × Value → H} {P : Program} {w : World} {base : Nat} {sp : Nat → Bool} {hd : Bool} : ∀ {ts : List TypeId} {vs : List Value} {ds : List (DataW H)} {ps : List MemPlace}, DataW.TrodAll enc P w base sp hd ts vs ds ps → ds.length = ts.length
  | [], [], [], _, _ => rfl
  | t :: ts, v :: vs, d :: ds, _, h => by
    obtain ⟨p, q, _, h2, _⟩ := h
    simp [trodAll_lengths h2]
  | [], [], _ :: _, _, h => h.elim
  | _ :: _, [], _, _, h => h.elim
  | [], _ :: _, _, _, h => h.elim
  | _ :: _, _ :: _, [], _, h => h.elim

/-- The elements of slices have cells. -/
def slicesB (P : Program) : Bool := (List.range P.types.size).all fun t => match P.underlying t with
  | some (.slice e) => Nat.blt 0 (P.cellsOf e)
  | _ => true
theorem slicesB_ok {P : Program} (h : slicesB P = true) {t e : TypeId} (ht : t < P.types.size) (he : P.underlying t = some (.slice e)) : 0 < P.cellsOf e := by
  have := List.all_eq_true.1 h t (List.mem_range.2 ht)
  rw [he] at this
  exact blt_iff.1 this

/-- A variable that is listed as an interface value. -/
theorem gl_listed {P : Program} {n nm : String} {d : DataW Unit} {r : List (String × DataW Unit)} {W : World} {g : Nat} {ti : TypeId} {ms : Array (String × TypeId)} (h : laidMet P ((n, .iface nm d) :: r) W)
    (hg : P.globalNamed n = some g) (ht : (P.globals[g]?).map (·.type) = some ti) (hi : P.underlying ti = some (.interface ms)) : GL (env0 W fun _ _ => True) g .any := by
  obtain ⟨ps, ⟨g0, t0, cs0, f0, p0, q0, hg0, ht0, hv0, hd0, _, _⟩, _⟩ := h
  obtain rfl := Option.some.inj (hg.symm.trans hg0)
  obtain rfl := Option.some.inj (ht.symm.trans ht0)
  obtain ⟨l0⟩ := cs0
  obtain ⟨_, u, v, hc, _⟩ := iface_of_trod hi hd0
  have hc : l0 = [.iface u v] := hc
  subst hc
  exact gl_var hg hv0 (.inr ⟨u, v, rfl⟩)

/-- What the rows list. -/
def laidL : List (String × DataW Unit) := Rows.cpuWordsRow.laid

theorem cx_glob {W : World} (hL : laidMet Tryd.prog laidL W) (hs : W.ShapedOpen Tryd.prog) : ∀ g v, cx.G g = some v → GL (env0 W fun _ _ => True) g v := by
  have hL1 : laidMet Tryd.prog [("math/bits.deBruijn32tab", Rows.laid_math_bits_deBruijn32tab), ("math/bits.deBruijn64tab", Rows.laid_math_bits_deBruijn64tab), ("internal/strconv.uint64pow10", Rows.laid_internal_strconv_uint64pow10), ("unicode/utf8.acceptRanges", Rows.laid_unicode_utf8_acceptRanges), ("strconv.ErrRange", Rows.laid_strconv_ErrRange), ("strconv.ErrSyntax", Rows.laid_strconv_ErrSyntax), ("unicode/utf8.first", Rows.laid_unicode_utf8_first)] W := hL
  have l3 := laidMet.tail (laidMet.tail hL1)
  have e3 : (Rows.laid_internal_strconv_uint64pow10 : DataW Unit) = Lib.tabData .u64 Lib.pow10Tab := by kernel_rfl
  have l3' := l3
  rw [e3] at l3'
  have h0 := Lib.tabIs_of_head (g := 0) (t := 120) (e := 22) (n := 20) (by kernel_rfl) (by kernel_rfl) (by kernel_rfl) (by kernel_rfl) (by kernel_rfl) (by kernel_rfl) l3'
  have g0 := gl_tab (P := Tryd.prog) (g := 0) (by kernel_rfl) h0
  have g1 := gl_int_shaped (P := Tryd.prog) (g := 1) (zero := #[.int .i64 0]) (t := 3) hs (of_decide_eq_true (by kernel_rfl)) (by kernel_rfl) rfl (by kernel_rfl) (by kernel_rfl) (by kernel_rfl)
  have l5 := laidMet.tail (laidMet.tail l3)
  have g3 := gl_listed (P := Tryd.prog) (g := 3) (ti := 96) l5 (by kernel_rfl) (by kernel_rfl) Tryd.underlying96
  have g2 := gl_listed (P := Tryd.prog) (g := 2) (ti := 96) (laidMet.tail l5) (by kernel_rfl) (by kernel_rfl) Tryd.underlying96
  intro g v h
  have h : gT g = some v := h
  unfold gT at h
  rcases cond_some h with ⟨c, h⟩ | ⟨_, h⟩
  · obtain rfl := nbeq c
    injection h with h; subst h; first | exact g0 | exact g1 | exact g2 | exact g3
  rcases cond_some h with ⟨c, h⟩ | ⟨_, h⟩
  · obtain rfl := nbeq c
    injection h with h; subst h; first | exact g0 | exact g1 | exact g2 | exact g3
  rcases cond_some h with ⟨c, h⟩ | ⟨_, h⟩
  · obtain rfl := nbeq c
    injection h with h; subst h; first | exact g0 | exact g1 | exact g2 | exact g3
  rcases cond_some h with ⟨c, h⟩ | ⟨_, h⟩
  · obtain rfl := nbeq c
    injection h with h; subst h; first | exact g0 | exact g1 | exact g2 | exact g3
  cases h
end Go.Am
namespace Go.Proofs.YtbkfnbnechpolaaDoor
open Go.ChangeShapes Go.WideShapes Go.ChangeAt Go.RowKit

theorem own : ownKnob Tryd.prog.godebug = none := by kernel_rfl
theorem laidOut : laidOutB Tryd.prog = true := by kernel_rfl
theorem rowed : mapsRowed Tryd.prog = true := by kernel_rfl
theorem sliced : Go.Am.slicesB Tryd.prog = true := by kernel_rfl

end Go.Proofs.YtbkfnbnechpolaaDoor
end
section
set_option linter.unusedVariables false
set_option linter.unusedSimpArgs false
namespace Go.Am
open Go Go.Proofs
set_option linter.unusedSimpArgs false
set_option linter.unusedVariables false
set_option maxRecDepth 100000

theorem flat_words (ps : List (List AVal)) (h : ∀ p ∈ ps, ∃ n : Int, p = [.int .u64 n] ∧ IntKind.u64.min ≤ n ∧ n ≤ IntKind.u64.max) :
    ∃ L : List Int, L.length = ps.length ∧ ps.flatten = ws L ∧ ∀ n ∈ L, 0 ≤ n ∧ n ≤ 18446744073709551615 := by
  induction ps with
  | nil => exact ⟨[], rfl, rfl, fun _ h => by cases h⟩
  | cons p ps ih =>
    obtain ⟨n, rfl, hn⟩ := h p (List.mem_cons_self ..)
    obtain ⟨L, h1, h2, h3⟩ := ih fun q hq => h q (List.mem_cons_of_mem _ hq)
    refine ⟨n :: L, by simp [h1], ?_, fun m hm => ?_⟩
    · rw [List.flatten_cons, h2]; rfl
    · rcases List.mem_cons.1 hm with rfl | hm
      · exact hn
      · exact h3 m hm

/-- A state of the processor. -/
theorem arg_cpu {v : AVal} (h : ArgV Tryd.prog 9 38 v) : ∃ L : List Int, v = .agg (ws L) ∧ L.length = 9 ∧ ∀ n ∈ L, 0 ≤ n ∧ n ≤ 18446744073709551615 := by
  obtain ⟨cs, rfl, hc⟩ := h
  unfold ArgC at hc
  rw [Tryd.underlying38] at hc
  obtain ⟨ps, rfl, hps⟩ := hc
  cases hps with
  | cons p1 t1 =>
    cases t1 with
    | cons p2 t2 =>
      cases t2
      unfold ArgC at p1
      rw [Tryd.underlying36] at p1
      obtain ⟨qs, rfl, hl, hq⟩ := p1
      obtain ⟨pc, rfl, hpc⟩ := argC_int Tryd.underlying22 p2
      obtain ⟨L, hL, hf, hr⟩ := flat_words qs (fun p hp => argC_int Tryd.underlying22 (hq p hp))
      refine ⟨L ++ [pc], ?_, by simp [hL, hl], fun n hn => ?_⟩
      · unfold wrapA
        rw [Tryd.underlying38]
        simp [hf, ws]
      · rcases List.mem_append.1 hn with hn | hn
        · exact hr n hn
        · obtain rfl := List.mem_singleton.1 hn
          exact hpc

theorem list_words {k : Nat} : ∀ xs : List (List AVal), (∀ x ∈ xs, ArgC Tryd.prog (k + 1) 22 x) → ∃ l : List Nat, xs.map (wrapA Tryd.prog 22) = wl l ∧ l.length = xs.length ∧ ∀ w ∈ l, w < 18446744073709551616
  | [], _ => ⟨[], rfl, rfl, fun _ h => by cases h⟩
  | x :: xs, h => by
    obtain ⟨l, h1, h2, h3⟩ := list_words xs fun y hy => h y (List.mem_cons_of_mem _ hy)
    obtain ⟨n, rfl, hn0, hn1⟩ := argC_int Tryd.underlying22 (h x (List.mem_cons_self ..))
    have hn0 : 0 ≤ n := hn0
    have hn1 : n ≤ 18446744073709551615 := hn1
    obtain ⟨w, rfl⟩ := Int.eq_ofNat_of_zero_le hn0
    refine ⟨w :: l, ?_, by simp [h2], fun u hu => ?_⟩
    · rw [List.map_cons, h1]
      unfold wrapA
      rw [Tryd.underlying22]
      rfl
    · rcases List.mem_cons.1 hu with rfl | hu
      · omega
      · exact h3 u hu

/-- A list of words. -/
theorem arg_words {v : AVal} (h : ArgV Tryd.prog 9 59 v) : ∃ (nl : Bool) (l : List Nat), v = .sl 1 nl (wl l) .any ∧ (∀ w ∈ l, w < 18446744073709551616) ∧ l.length ≤ 9223372036854775807 ∧ (nl = true → l = []) := by
  obtain ⟨cs, rfl, hc⟩ := h
  unfold ArgC at hc
  rw [Tryd.underlying59] at hc
  obtain ⟨nl, xs, rfl, hn, hl, hx⟩ := hc
  obtain ⟨l, h1, h2, h3⟩ := list_words xs hx
  refine ⟨nl, l, ?_, h3, by rw [h2]; exact hl, fun h => ?_⟩
  · unfold wrapA
    rw [Tryd.underlying59]
    show AVal.sl (Tryd.prog.cellsOf 22) nl (xs.map (wrapA Tryd.prog 22)) .any = _
    rw [h1, show Tryd.prog.cellsOf 22 = 1 by kernel_rfl]
  · have := hn h
    subst this
    simpa using h2
end Go.Am
end
