/- Arguments: views of the host, of a realm. -/
import Derived.Test.YtligpgckkbloaaaGreatV08
import Derived.Test.YtligpgckkbloaaaGreatAmRow
import Derived.Test.YtligpgckkbloaaaGreatRows
set_option linter.unusedVariables false
set_option linter.unusedSimpArgs false
namespace Go.Am
open Go Go.Proofs
set_option maxRecDepth 100000
theorem argC_int {P : Program} {k : Nat} {t : TypeId} {q : IntKind} {cs : List AVal} (hu : P.underlying t = some (.int q)) (h : ArgC P k t cs) : ∃ n : Int, cs = [.int q n] ∧ q.min ≤ n ∧ n ≤ q.max := by
  cases k with
  | zero => exact h.elim
  | succ k =>
    unfold ArgC at h
    rw [hu] at h
    obtain ⟨n, rfl, hw⟩ := h
    refine ⟨n, rfl, ?_⟩
    simpa [Lit.wf] using hw
theorem flat_bytes (ps : List (List AVal)) (h : ∀ p ∈ ps, ∃ n : Int, p = [.int .u8 n] ∧ IntKind.u8.min ≤ n ∧ n ≤ IntKind.u8.max) :
    ∃ L : List UInt8, L.length = ps.length ∧ ps.flatten = bl L := by
  induction ps with
  | nil => exact ⟨[], rfl, rfl⟩
  | cons p ps ih =>
    obtain ⟨n, rfl, hn0, hn1⟩ := h p (List.mem_cons_self ..)
    have hn0 : 0 ≤ n := hn0
    have hn1 : n ≤ 255 := hn1
    obtain ⟨w, rfl⟩ := Int.eq_ofNat_of_zero_le hn0
    obtain ⟨L, h1, h2⟩ := ih fun q hq => h q (List.mem_cons_of_mem _ hq)
    have e : (UInt8.ofNat w).toNat = w := by simp [UInt8.toNat_ofNat']; omega
    refine ⟨UInt8.ofNat w :: L, by simp [h1], ?_⟩
    rw [List.flatten_cons, h2]
    simp [bl, bv, e]
theorem argC_granule {k : Nat} {cs : List AVal} (h : ArgC Tryz.prog (k + 2) 30 cs) : ∃ L : List UInt8, cs = bl L ∧ L.length = 128 := by
  unfold ArgC at h
  rw [Tryz.underlying30] at h
  obtain ⟨qs, rfl, hl, hq⟩ := h
  obtain ⟨L, hL, hf⟩ := flat_bytes qs (fun p hp => argC_int Tryz.underlying5 (hq p hp))
  exact ⟨L, hf, by omega⟩
theorem list_els {α : Type} {k : Nat} {t : TypeId} (enc : α → List AVal) (Ok : α → Prop) (hw : ∀ x, wrapA Tryz.prog t (enc x) = .agg (enc x)) (he : ∀ cs, ArgC Tryz.prog k t cs → ∃ x, cs = enc x ∧ Ok x) :
    ∀ xs : List (List AVal), (∀ x ∈ xs, ArgC Tryz.prog k t x) → ∃ l : List α, xs.map (wrapA Tryz.prog t) = els enc l ∧ l.length = xs.length ∧ ∀ x ∈ l, Ok x
  | [], _ => ⟨[], rfl, rfl, fun _ h => by cases h⟩
  | x :: xs, h => by
    obtain ⟨l, h1, h2, h3⟩ := list_els enc Ok hw he xs fun y hy => h y (List.mem_cons_of_mem _ hy)
    obtain ⟨p, rfl, hp⟩ := he _ (h x (List.mem_cons_self ..))
    refine ⟨p :: l, ?_, by simp [h2], fun c hc => ?_⟩
    · rw [List.map_cons, h1, hw]; rfl
    · rcases List.mem_cons.1 hc with rfl | hc
      · exact hp
      · exact h3 c hc
theorem list_ints {k : Nat} {t : TypeId} (hu : Tryz.prog.underlying t = some (.int .i64)) : ∀ xs : List (List AVal), (∀ x ∈ xs, ArgC Tryz.prog k t x) → ∃ l : List Int, xs.map (wrapA Tryz.prog t) = il l ∧ l.length = xs.length
  | [], _ => ⟨[], rfl, rfl⟩
  | x :: xs, h => by
    obtain ⟨l, h1, h2⟩ := list_ints hu xs fun y hy => h y (List.mem_cons_of_mem _ hy)
    obtain ⟨n, rfl, _⟩ := argC_int hu (h x (List.mem_cons_self ..))
    refine ⟨n :: l, ?_, by simp [h2]⟩
    rw [List.map_cons, h1]
    unfold wrapA
    rw [hu]
    rfl
structure Vw.W (v : Vw) : Prop where
  s1 : v.s.length ≤ 9223372036854775807
  h1 : v.h.length ≤ 9223372036854775807
  b1 : v.b.length ≤ 9223372036854775807
  b2 : ∀ x ∈ v.b, x.length = 128
theorem arg_view {v : AVal} (h : ArgV Tryz.prog 9 26 v) : ∃ (o : Vw) (n0 n1 n2 : Bool), v = .agg (vwC o n0 n1 n2) ∧ o.W := by
  obtain ⟨cs, rfl, h⟩ := h
  unfold ArgC at h
  rw [Tryz.underlying26] at h
  obtain ⟨ps, rfl, hps⟩ := h
  cases hps with
  | cons p1 t1 =>
  cases t1 with
  | cons p2 t2 =>
  cases t2 with
  | cons p3 t3 =>
  cases t3
  unfold ArgC at p1 p2 p3
  rw [Tryz.underlying22] at p1
  rw [Tryz.underlying23] at p2
  rw [Tryz.underlying24] at p3
  obtain ⟨n0, xs, rfl, _, hl0, hx0⟩ := p1
  obtain ⟨n1, xh, rfl, _, hl1, hx1⟩ := p2
  obtain ⟨n2, xb, rfl, _, hl2, hx2⟩ := p3
  obtain ⟨s, a1, a2⟩ := list_ints Tryz.underlying28 xs hx0
  obtain ⟨hh, c1, c2⟩ := list_ints Tryz.underlying3 xh hx1
  obtain ⟨b, b1, b2, b3⟩ := list_els (t := 30) bl (fun x => x.length = 128) (fun x => by unfold wrapA; rw [Tryz.underlying30]) (fun cs h => argC_granule h) xb hx2
  refine ⟨⟨s, hh, b⟩, n0, n1, n2, ?_, ⟨by rw [a2]; exact hl0, by rw [c2]; exact hl1, by rw [b2]; exact hl2, b3⟩⟩
  rw [a1, b1, c1, show Tryz.prog.cellsOf 30 = 128 by kernel_rfl, show Tryz.prog.cellsOf 28 = 1 by kernel_rfl, show Tryz.prog.cellsOf 3 = 1 by kernel_rfl]
  unfold wrapA
  rw [Tryz.underlying26]
  simp [vwC]
theorem trodAll_lengths {H : Type} {enc : TypeId × Value → H} {P : Program} {w : World} {base : Nat} {sp : Nat → Bool} {hd : Bool} : ∀ {ts : List TypeId} {vs : List Value} {ds : List (DataW H)} {ps : List MemPlace}, DataW.TrodAll enc P w base sp hd ts vs ds ps → ds.length = ts.length
  | [], [], [], _, _ => rfl
  | t :: ts, v :: vs, d :: ds, _, h => by
    obtain ⟨p, q, _, h2, _⟩ := h
    simp [trodAll_lengths h2]
  | [], [], _ :: _, _, h => h.elim
  | _ :: _, [], _, _, h => h.elim
  | [], _ :: _, _, _, h => h.elim
  | _ :: _, _ :: _, [], _, h => h.elim
def slicesB (P : Program) : Bool := (List.range P.types.size).all fun t => match P.underlying t with
  | some (.slice e) => Nat.blt 0 (P.cellsOf e)
  | _ => true
theorem slicesB_ok {P : Program} (h : slicesB P = true) {t e : TypeId} (ht : t < P.types.size) (he : P.underlying t = some (.slice e)) : 0 < P.cellsOf e := by
  have := List.all_eq_true.1 h t (List.mem_range.2 ht)
  rw [he] at this
  exact blt_iff.1 this
end Go.Am
namespace Go.Proofs.YtligpgckkbloaaaGreat
theorem own : ownKnob Tryz.prog.godebug = none := by kernel_rfl
theorem laidOut : laidOutB Tryz.prog = true := by kernel_rfl
theorem rowed : mapsRowed Tryz.prog = true := by kernel_rfl
theorem sliced : Go.Am.slicesB Tryz.prog = true := by kernel_rfl
end Go.Proofs.YtligpgckkbloaaaGreat
