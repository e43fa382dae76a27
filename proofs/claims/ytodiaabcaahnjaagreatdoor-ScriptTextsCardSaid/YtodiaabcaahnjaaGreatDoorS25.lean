/- Arguments: scripts. -/
import Derived.Test.YtodiaabcaahnjaaGreatDoorS23
import Derived.Test.YtodiaabcaahnjaaGreatDoorS16
set_option linter.unusedVariables false
set_option linter.unusedSimpArgs false
namespace Go.Am
open Go Go.Proofs
set_option maxRecDepth 100000
theorem argC_u64 {k : Nat} {cs : List AVal} (h : ArgC Tryz.prog k 25 cs) : ∃ n : Nat, cs = [.int .u64 (n : Int)] ∧ n < 18446744073709551616 := by
  obtain ⟨n, rfl, hn0, hn1⟩ := argC_int Tryz.underlying25 h
  have hn0 : 0 ≤ n := hn0
  have hn1 : n ≤ 18446744073709551615 := hn1
  obtain ⟨w, rfl⟩ := Int.eq_ofNat_of_zero_le hn0
  exact ⟨w, rfl, by omega⟩
theorem argC_bool {k : Nat} {cs : List AVal} (h : ArgC Tryz.prog (k + 1) 4 cs) : ∃ b : Bool, cs = [.bool b] := by
  unfold ArgC at h
  rw [Tryz.underlying4] at h
  exact h
theorem argC_bytes {k : Nat} {cs : List AVal} (h : ArgC Tryz.prog (k + 2) 29 cs) : ∃ (nl : Bool) (l : List UInt8), cs = [.sl 1 nl (bl l) .any] ∧ l.length ≤ 9223372036854775807 := by
  unfold ArgC at h
  rw [Tryz.underlying29] at h
  obtain ⟨nl, xs, rfl, hn, hl, hx⟩ := h
  obtain ⟨l, h1, h2⟩ := list_bytes xs hx
  refine ⟨nl, l, ?_, by rw [h2]; exact hl⟩
  rw [h1, show Tryz.prog.cellsOf 5 = 1 by kernel_rfl]
theorem flat_bytes (ps : List (List AVal)) (h : ∀ p ∈ ps, ∃ n : Int, p = [.int .u8 n] ∧ IntKind.u8.min ≤ n ∧ n ≤ IntKind.u8.max) :
    ∃ L : List UInt8, L.length = ps.length ∧ ps.flatten = bl L := by
  induction ps with
  | nil => exact ⟨[], rfl, rfl⟩
  | cons p ps ih =>
    obtain ⟨n, rfl, hn0, hn1⟩ := h p (List.mem_cons_self ..)
    have hn0 : 0 ≤ n := hn0
    have hn1 : n ≤ 255 := hn1
    obtain ⟨w, rfl⟩ := Int.eq_ofNat_of_zero_le hn0
    obtain ⟨L, h1, h2⟩ := ih fun q hq => h q (List.mem_cons_of_mem _ hq)
    have e : (UInt8.ofNat w).toNat = w := by simp [UInt8.toNat_ofNat']; omega
    refine ⟨UInt8.ofNat w :: L, by simp [h1], ?_⟩
    rw [List.flatten_cons, h2]
    simp [bl, bv, e]
theorem argC_digest {k : Nat} {cs : List AVal} (h : ArgC Tryz.prog (k + 2) 41 cs) : ∃ L : List UInt8, cs = bl L ∧ L.length = 32 := by
  unfold ArgC at h
  rw [Tryz.underlying41] at h
  obtain ⟨qs, rfl, hl, hq⟩ := h
  obtain ⟨L, hL, hf⟩ := flat_bytes qs (fun p hp => argC_int Tryz.underlying5 (hq p hp))
  exact ⟨L, hf, by omega⟩
theorem list_dgs {k : Nat} : ∀ xs : List (List AVal), (∀ x ∈ xs, ArgC Tryz.prog (k + 2) 41 x) → ∃ l : List (List UInt8), xs.map (wrapA Tryz.prog 41) = dgs l ∧ l.length = xs.length ∧ ∀ x ∈ l, x.length = 32
  | [], _ => ⟨[], rfl, rfl, fun _ h => by cases h⟩
  | x :: xs, h => by
    obtain ⟨l, h1, h2, h3⟩ := list_dgs xs fun y hy => h y (List.mem_cons_of_mem _ hy)
    obtain ⟨L, rfl, hL⟩ := argC_digest (h x (List.mem_cons_self ..))
    refine ⟨L :: l, ?_, by simp [h2], fun c hc => ?_⟩
    · rw [List.map_cons, h1]
      unfold wrapA
      rw [Tryz.underlying41]
      rfl
    · rcases List.mem_cons.1 hc with rfl | hc
      · exact hL
      · exact h3 c hc
theorem list_words {k : Nat} : ∀ xs : List (List AVal), (∀ x ∈ xs, ArgC Tryz.prog (k + 1) 25 x) → ∃ l : List Nat, xs.map (wrapA Tryz.prog 25) = wl l ∧ l.length = xs.length ∧ ∀ x ∈ l, x < 18446744073709551616
  | [], _ => ⟨[], rfl, rfl, fun _ h => by cases h⟩
  | x :: xs, h => by
    obtain ⟨l, h1, h2, h3⟩ := list_words xs fun y hy => h y (List.mem_cons_of_mem _ hy)
    obtain ⟨n, rfl, hn⟩ := argC_u64 (h x (List.mem_cons_self ..))
    refine ⟨n :: l, ?_, by simp [h2], fun c hc => ?_⟩
    · rw [List.map_cons, h1]
      unfold wrapA
      rw [Tryz.underlying25]
      rfl
    · rcases List.mem_cons.1 hc with rfl | hc
      · exact hn
      · exact h3 c hc
theorem argC_step {k : Nat} {cs : List AVal} (h : ArgC Tryz.prog (k + 4) 31 cs) : ∃ (s : Sp) (nl : Bool), cs = spC s nl .any ∧ s.Wd := by
  unfold ArgC at h
  rw [Tryz.underlying31] at h
  obtain ⟨ps, rfl, hps⟩ := h
  cases hps with
  | cons p1 t1 =>
  cases t1 with
  | cons p2 t2 =>
  cases t2 with
  | cons p3 t3 =>
  cases t3 with
  | cons p4 t4 =>
  cases t4 with
  | cons p5 t5 =>
  cases t5
  obtain ⟨n1, rfl, _⟩ := argC_int Tryz.underlying23 p1
  obtain ⟨op, xs, rfl, hx, hw, _⟩ := argC_call p2
  obtain ⟨a, rfl, ha⟩ := argC_u64 p3
  obtain ⟨w, rfl, hw2⟩ := argC_u64 p4
  obtain ⟨nl, b, rfl, _⟩ := argC_bytes p5
  exact ⟨⟨n1, op, xs, a, w, b⟩, nl, by simp [spC], ⟨hx, hw, ha, hw2⟩⟩
theorem list_steps {k : Nat} : ∀ xs : List (List AVal), (∀ x ∈ xs, ArgC Tryz.prog (k + 4) 31 x) → ∃ l : List (Sp × Bool), xs.map (wrapA Tryz.prog 31) = sts l ∧ l.length = xs.length ∧ ∀ p ∈ l, p.1.Wd
  | [], _ => ⟨[], rfl, rfl, fun _ h => by cases h⟩
  | x :: xs, h => by
    obtain ⟨l, h1, h2, h3⟩ := list_steps xs fun y hy => h y (List.mem_cons_of_mem _ hy)
    obtain ⟨s, nl, rfl, hs⟩ := argC_step (h x (List.mem_cons_self ..))
    refine ⟨(s, nl) :: l, ?_, by simp [h2], fun c hc => ?_⟩
    · rw [List.map_cons, h1]
      unfold wrapA
      rw [Tryz.underlying31]
      rfl
    · rcases List.mem_cons.1 hc with rfl | hc
      · exact hs
      · exact h3 c hc
theorem argC_setup {k : Nat} {cs : List AVal} (h : ArgC Tryz.prog (k + 4) 45 cs) : ∃ (s : Su) (nd ne : Bool), cs = suC s nd ne ∧ s.Ok ∧ s.d.length ≤ 9223372036854775807 ∧ s.e.length ≤ 9223372036854775807 := by
  unfold ArgC at h
  rw [Tryz.underlying45] at h
  obtain ⟨ps, rfl, hps⟩ := h
  cases hps with
  | cons p1 t1 =>
  cases t1 with
  | cons p2 t2 =>
  cases t2 with
  | cons p3 t3 =>
  cases t3 with
  | cons p4 t4 =>
  cases t4 with
  | cons p5 t5 =>
  cases t5
  obtain ⟨g, rfl, _⟩ := argC_int Tryz.underlying3 p1
  obtain ⟨i, rfl⟩ := argC_bool p2
  obtain ⟨m, rfl, hm⟩ := argC_digest p3
  unfold ArgC at p4 p5
  rw [Tryz.underlying42] at p4
  rw [Tryz.underlying43] at p5
  obtain ⟨nd, xd, rfl, _, hdl, hd⟩ := p4
  obtain ⟨ne, xe, rfl, _, hel, he⟩ := p5
  obtain ⟨d, d1, d2, d3⟩ := list_dgs xd hd
  obtain ⟨e, e1, e2, e3⟩ := list_words xe he
  refine ⟨⟨g, i, m, d, e⟩, nd, ne, ?_, ⟨hm, d3, e3⟩, by rw [d2]; exact hdl, by rw [e2]; exact hel⟩
  rw [d1, e1, show Tryz.prog.cellsOf 41 = 32 by kernel_rfl, show Tryz.prog.cellsOf 25 = 1 by kernel_rfl]
  simp [suC]
theorem arg_script {v : AVal} (h : ArgV Tryz.prog 9 48 v) : ∃ (s : Su) (nd ne ns : Bool) (l : List (Sp × Bool)), v = .agg (scC s nd ne l ns) ∧ ScW s l := by
  obtain ⟨cs, rfl, h⟩ := h
  unfold ArgC at h
  rw [Tryz.underlying48] at h
  obtain ⟨ps, rfl, hps⟩ := h
  cases hps with
  | cons p1 t1 =>
  cases t1 with
  | cons p2 t2 =>
  cases t2
  obtain ⟨s, nd, ne, rfl, hs, h1, h2⟩ := argC_setup p1
  unfold ArgC at p2
  rw [Tryz.underlying46] at p2
  obtain ⟨ns, xs, rfl, _, hl, hx⟩ := p2
  obtain ⟨l, l1, l2, l3⟩ := list_steps xs hx
  refine ⟨s, nd, ne, ns, l, ?_, ⟨hs, l3, h1, h2, by rw [l2]; exact hl⟩⟩
  rw [l1, show Tryz.prog.cellsOf 31 = 11 by kernel_rfl]
  unfold wrapA
  rw [Tryz.underlying48]
  simp [scC, suC]
end Go.Am
