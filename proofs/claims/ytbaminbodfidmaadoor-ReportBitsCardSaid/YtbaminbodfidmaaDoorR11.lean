/- Arguments of the chapter's laws; the program's variables that are known. -/
import Derived.Test.YtbaminbodfidmaaDoorP05
import Derived.Test.YtbaminbodfidmaaDoorAmShelf
import Derived.Test.YtbaminbodfidmaaDoorRows
import Derived.Test.YtbaminbodfidmaaDoorTie
import Derived.Test.YtbaminbodfidmaaDoorCards
import Derived.ProofKit
import Derived.LaidMore
import Derived.Lay
import Derived.OpenShut
import Derived.Stop.Joined
import Derived.SevenTiedAt
set_option linter.unusedVariables false
set_option linter.unusedSimpArgs false
namespace Go.Am
open Go Go.Proofs Go.Proofs.YtbaminbodfidmaaDoor
set_option maxRecDepth 100000

/-- A cell that is a number of a kind. -/
theorem argC_int {P : Program} {k : Nat} {t : TypeId} {q : IntKind} {cs : List AVal} (hu : P.underlying t = some (.int q)) (h : ArgC P k t cs) : ∃ n : Int, cs = [.int q n] ∧ q.min ≤ n ∧ n ≤ q.max := by
  cases k with
  | zero => exact h.elim
  | succ k =>
    unfold ArgC at h
    rw [hu] at h
    obtain ⟨n, rfl, hw⟩ := h
    refine ⟨n, rfl, ?_⟩
    simpa [Lit.wf] using hw
/-- A row of bytes as cells. -/
theorem flat_bytes (ps : List (List AVal)) (h : ∀ p ∈ ps, ∃ n : Int, p = [.int .u8 n] ∧ IntKind.u8.min ≤ n ∧ n ≤ IntKind.u8.max) :
    ∃ L : List UInt8, L.length = ps.length ∧ ps.flatten = bl L := by
  induction ps with
  | nil => exact ⟨[], rfl, rfl⟩
  | cons p ps ih =>
    obtain ⟨n, rfl, hn0, hn1⟩ := h p (List.mem_cons_self ..)
    have hn0 : 0 ≤ n := hn0
    have hn1 : n ≤ 255 := hn1
    obtain ⟨w, rfl⟩ := Int.eq_ofNat_of_zero_le hn0
    obtain ⟨L, h1, h2⟩ := ih fun q hq => h q (List.mem_cons_of_mem _ hq)
    have e : (UInt8.ofNat w).toNat = w := by simp [UInt8.toNat_ofNat']; omega
    refine ⟨UInt8.ofNat w :: L, by simp [h1], ?_⟩
    rw [List.flatten_cons, h2]
    simp [bl, bv, e]
theorem argC_digest {k : Nat} {cs : List AVal} (h : ArgC Tryd.prog (k + 2) 26 cs) : ∃ L : List UInt8, cs = bl L ∧ L.length = 32 := by
  unfold ArgC at h
  rw [Tryd.underlying26] at h
  obtain ⟨qs, rfl, hl, hq⟩ := h
  obtain ⟨L, hL, hf⟩ := flat_bytes qs (fun p hp => argC_int Tryd.underlying5 (hq p hp))
  exact ⟨L, hf, by omega⟩
/-- A report. -/
theorem arg_rep {v : AVal} (h : ArgV Tryd.prog 9 28 v) : ∃ (n : Nat) (m c : List UInt8), v = .agg (repc n m c) ∧ n < 18446744073709551616 ∧ m.length = 32 ∧ c.length = 32 := by
  obtain ⟨cs, rfl, h⟩ := h
  unfold ArgC at h
  rw [Tryd.underlying28] at h
  obtain ⟨ps, rfl, hps⟩ := h
  cases hps with
  | cons p1 t1 =>
  cases t1 with
  | cons p2 t2 =>
  cases t2 with
  | cons p3 t3 =>
  cases t3
  obtain ⟨n1, rfl, hn0, hn1⟩ := argC_int Tryd.underlying24 p1
  have hn0 : 0 ≤ n1 := hn0
  have hn1 : n1 ≤ 18446744073709551615 := hn1
  obtain ⟨w, rfl⟩ := Int.eq_ofNat_of_zero_le hn0
  obtain ⟨m, rfl, hm⟩ := argC_digest p2
  obtain ⟨c, rfl, hc⟩ := argC_digest p3
  refine ⟨w, m, c, ?_, by omega, hm, hc⟩
  unfold wrapA
  rw [Tryd.underlying28]
  simp [repc, bl]
theorem arg_int {v : AVal} (h : ArgV Tryd.prog 9 3 v) : ∃ n : Int, v = .int .i64 n ∧ -9223372036854775808 ≤ n ∧ n ≤ 9223372036854775807 := by
  obtain ⟨cs, rfl, hc⟩ := h
  obtain ⟨n, rfl, hn⟩ := argC_int Tryd.underlying3 hc
  refine ⟨n, ?_, hn⟩
  unfold wrapA
  rw [Tryd.underlying3]
  rfl
theorem trodAll_lengths {H : Type} {enc : TypeId × Value → H} {P : Program} {w : World} {base : Nat} {sp : Nat → Bool} {hd : Bool} : ∀ {ts : List TypeId} {vs : List Value} {ds : List (DataW H)} {ps : List MemPlace}, DataW.TrodAll enc P w base sp hd ts vs ds ps → ds.length = ts.length
  | [], [], [], _, _ => rfl
  | t :: ts, v :: vs, d :: ds, _, h => by
    obtain ⟨p, q, _, h2, _⟩ := h
    simp [trodAll_lengths h2]
  | [], [], _ :: _, _, h => h.elim
  | _ :: _, [], _, _, h => h.elim
  | [], _ :: _, _, _, h => h.elim
  | _ :: _, _ :: _, [], _, h => h.elim

/-- The elements of slices have cells. -/
def slicesB (P : Program) : Bool := (List.range P.types.size).all fun t => match P.underlying t with
  | some (.slice e) => Nat.blt 0 (P.cellsOf e)
  | _ => true
theorem slicesB_ok {P : Program} (h : slicesB P = true) {t e : TypeId} (ht : t < P.types.size) (he : P.underlying t = some (.slice e)) : 0 < P.cellsOf e := by
  have := List.all_eq_true.1 h t (List.mem_range.2 ht)
  rw [he] at this
  exact blt_iff.1 this

/-- A variable that is listed as an interface value. -/
theorem gl_listed {P : Program} {n nm : String} {d : DataW Unit} {r : List (String × DataW Unit)} {W : World} {g : Nat} {ti : TypeId} {ms : Array (String × TypeId)} (h : laidMet P ((n, .iface nm d) :: r) W)
    (hg : P.globalNamed n = some g) (ht : (P.globals[g]?).map (·.type) = some ti) (hi : P.underlying ti = some (.interface ms)) : GL (env0 W fun _ _ => True) g .any := by
  obtain ⟨ps, ⟨g0, t0, cs0, f0, p0, q0, hg0, ht0, hv0, hd0, _, _⟩, _⟩ := h
  obtain rfl := Option.some.inj (hg.symm.trans hg0)
  obtain rfl := Option.some.inj (ht.symm.trans ht0)
  obtain ⟨l0⟩ := cs0
  obtain ⟨_, u, v, hc, _⟩ := iface_of_trod hi hd0
  have hc : l0 = [.iface u v] := hc
  subst hc
  exact gl_var hg hv0 (.inr ⟨u, v, rfl⟩)

/-- What the rows list. -/
def laidL : List (String × DataW Unit) := Rows.reportTellsRow.laid

theorem cx_glob {W : World} (hL : laidMet Tryd.prog laidL W) (hs : W.ShapedOpen Tryd.prog) : ∀ g v, cx.G g = some v → GL (env0 W fun _ _ => True) g v := by
  have hL1 : laidMet Tryd.prog [("math/bits.deBruijn32tab", Rows.laid_math_bits_deBruijn32tab), ("math/bits.deBruijn64tab", Rows.laid_math_bits_deBruijn64tab), ("internal/strconv.uint64pow10", Rows.laid_internal_strconv_uint64pow10), ("unicode/utf8.acceptRanges", Rows.laid_unicode_utf8_acceptRanges), ("strconv.ErrRange", Rows.laid_strconv_ErrRange), ("strconv.ErrSyntax", Rows.laid_strconv_ErrSyntax), ("unicode/utf8.first", Rows.laid_unicode_utf8_first)] W := hL
  have l3 := laidMet.tail (laidMet.tail hL1)
  have e3 : (Rows.laid_internal_strconv_uint64pow10 : DataW Unit) = Lib.tabData .u64 Lib.pow10Tab := by kernel_rfl
  have l3' := l3
  rw [e3] at l3'
  have h0 := Lib.tabIs_of_head (g := 2) (t := 108) (e := 24) (n := 20) (by kernel_rfl) (by kernel_rfl) (by kernel_rfl) (by kernel_rfl) (by kernel_rfl) (by kernel_rfl) l3'
  have g0 := gl_tab (P := Tryd.prog) (g := 2) (by kernel_rfl) h0
  have g1 := gl_int_shaped (P := Tryd.prog) (g := 5) (zero := #[.int .i64 0]) (t := 3) hs (of_decide_eq_true (by kernel_rfl)) (by kernel_rfl) rfl (by kernel_rfl) (by kernel_rfl) (by kernel_rfl)
  have l5 := laidMet.tail (laidMet.tail l3)
  have g3 := gl_listed (P := Tryd.prog) (g := 1) (ti := 57) l5 (by kernel_rfl) (by kernel_rfl) Tryd.underlying57
  have g2 := gl_listed (P := Tryd.prog) (g := 0) (ti := 57) (laidMet.tail l5) (by kernel_rfl) (by kernel_rfl) Tryd.underlying57
  intro g v h
  have h : gT g = some v := h
  unfold gT at h
  rcases cond_some h with ⟨c, h⟩ | ⟨_, h⟩
  · obtain rfl := nbeq c
    injection h with h; subst h; first | exact g0 | exact g1 | exact g2 | exact g3
  rcases cond_some h with ⟨c, h⟩ | ⟨_, h⟩
  · obtain rfl := nbeq c
    injection h with h; subst h; first | exact g0 | exact g1 | exact g2 | exact g3
  rcases cond_some h with ⟨c, h⟩ | ⟨_, h⟩
  · obtain rfl := nbeq c
    injection h with h; subst h; first | exact g0 | exact g1 | exact g2 | exact g3
  rcases cond_some h with ⟨c, h⟩ | ⟨_, h⟩
  · obtain rfl := nbeq c
    injection h with h; subst h; first | exact g0 | exact g1 | exact g2 | exact g3
  cases h
end Go.Am
namespace Go.Proofs.YtbaminbodfidmaaDoor
open Go.ChangeShapes Go.WideShapes Go.ChangeAt Go.RowKit

theorem own : ownKnob Tryd.prog.godebug = none := by kernel_rfl
theorem laidOut : laidOutB Tryd.prog = true := by kernel_rfl
theorem rowed : mapsRowed Tryd.prog = true := by kernel_rfl
theorem sliced : Go.Am.slicesB Tryd.prog = true := by kernel_rfl

end Go.Proofs.YtbaminbodfidmaaDoor
