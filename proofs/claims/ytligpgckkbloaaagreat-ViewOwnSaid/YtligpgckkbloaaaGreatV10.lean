/- Arguments: views of the host, of a realm. -/
import Derived.Test.YtligpgckkbloaaaGreatV08
import Derived.Test.YtligpgckkbloaaaGreatAmRow
import Derived.Test.YtligpgckkbloaaaGreatRows
set_option linter.unusedVariables false
set_option linter.unusedSimpArgs false
namespace Go.Am
open Go Go.Proofs
set_option maxRecDepth 100000
theorem argC_int {P : Program} {k : Nat} {t : TypeId} {q : IntKind} {cs : List AVal} (hu : P.underlying t = some (.int q)) (h : ArgC P k t cs) : ∃ n : Int, cs = [.int q n] ∧ q.min ≤ n ∧ n ≤ q.max := by
  cases k with
  | zero => exact h.elim
  | succ k =>
    unfold ArgC at h
    rw [hu] at h
    obtain ⟨n, rfl, hw⟩ := h
    refine ⟨n, rfl, ?_⟩
    simpa [Lit.wf] using hw
theorem argC_u64 {k : Nat} {cs : List AVal} (h : ArgC Tryz.prog k 33 cs) : ∃ n : Nat, cs = [.int .u64 (n : Int)] := by
  obtain ⟨n, rfl, hn0, hn1⟩ := argC_int Tryz.underlying33 h
  have hn0 : 0 ≤ n := hn0
  obtain ⟨w, rfl⟩ := Int.eq_ofNat_of_zero_le hn0
  exact ⟨w, rfl⟩
theorem argC_bool {k : Nat} {cs : List AVal} (h : ArgC Tryz.prog (k + 1) 4 cs) : ∃ b : Bool, cs = [.bool b] := by
  unfold ArgC at h
  rw [Tryz.underlying4] at h
  exact h
theorem flat_bytes (ps : List (List AVal)) (h : ∀ p ∈ ps, ∃ n : Int, p = [.int .u8 n] ∧ IntKind.u8.min ≤ n ∧ n ≤ IntKind.u8.max) :
    ∃ L : List UInt8, L.length = ps.length ∧ ps.flatten = bl L := by
  induction ps with
  | nil => exact ⟨[], rfl, rfl⟩
  | cons p ps ih =>
    obtain ⟨n, rfl, hn0, hn1⟩ := h p (List.mem_cons_self ..)
    have hn0 : 0 ≤ n := hn0
    have hn1 : n ≤ 255 := hn1
    obtain ⟨w, rfl⟩ := Int.eq_ofNat_of_zero_le hn0
    obtain ⟨L, h1, h2⟩ := ih fun q hq => h q (List.mem_cons_of_mem _ hq)
    have e : (UInt8.ofNat w).toNat = w := by simp [UInt8.toNat_ofNat']; omega
    refine ⟨UInt8.ofNat w :: L, by simp [h1], ?_⟩
    rw [List.flatten_cons, h2]
    simp [bl, bv, e]
theorem flat_words (ps : List (List AVal)) (h : ∀ p ∈ ps, ∃ n : Nat, p = [.int .u64 (n : Int)]) :
    ∃ L : List Nat, L.length = ps.length ∧ ps.flatten = wl L := by
  induction ps with
  | nil => exact ⟨[], rfl, rfl⟩
  | cons p ps ih =>
    obtain ⟨n, rfl⟩ := h p (List.mem_cons_self ..)
    obtain ⟨L, h1, h2⟩ := ih fun q hq => h q (List.mem_cons_of_mem _ hq)
    refine ⟨n :: L, by simp [h1], ?_⟩
    rw [List.flatten_cons, h2]
    simp [wl]
theorem argC_digest {k : Nat} {cs : List AVal} (h : ArgC Tryz.prog (k + 2) 36 cs) : ∃ L : List UInt8, cs = bl L ∧ L.length = 32 := by
  unfold ArgC at h
  rw [Tryz.underlying36] at h
  obtain ⟨qs, rfl, hl, hq⟩ := h
  obtain ⟨L, hL, hf⟩ := flat_bytes qs (fun p hp => argC_int Tryz.underlying5 (hq p hp))
  exact ⟨L, hf, by omega⟩
theorem argC_granule {k : Nat} {cs : List AVal} (h : ArgC Tryz.prog (k + 2) 30 cs) : ∃ L : List UInt8, cs = bl L ∧ L.length = 128 := by
  unfold ArgC at h
  rw [Tryz.underlying30] at h
  obtain ⟨qs, rfl, hl, hq⟩ := h
  obtain ⟨L, hL, hf⟩ := flat_bytes qs (fun p hp => argC_int Tryz.underlying5 (hq p hp))
  exact ⟨L, hf, by omega⟩
theorem argC_page {k : Nat} {cs : List AVal} (h : ArgC Tryz.prog (k + 3) 72 cs) : ∃ p : Pg, cs = pgC p ∧ p.Ok := by
  unfold ArgC at h
  rw [Tryz.underlying72] at h
  obtain ⟨ps, rfl, hps⟩ := h
  cases hps with
  | cons p1 t1 =>
  cases t1 with
  | cons p2 t2 =>
  cases t2
  obtain ⟨n, rfl, _⟩ := argC_int Tryz.underlying3 p1
  obtain ⟨b, rfl, hb⟩ := argC_granule p2
  exact ⟨⟨n, b⟩, by simp [pgC], hb⟩
theorem argC_cpu {k : Nat} {cs : List AVal} (h : ArgC Tryz.prog (k + 3) 76 cs) : ∃ (rs : List Nat) (pc : Nat), cs = wl rs ++ [.int .u64 (pc : Int)] ∧ rs.length = 8 := by
  unfold ArgC at h
  rw [Tryz.underlying76] at h
  obtain ⟨ps, rfl, hps⟩ := h
  cases hps with
  | cons p1 t1 =>
  cases t1 with
  | cons p2 t2 =>
  cases t2
  unfold ArgC at p1
  rw [Tryz.underlying74] at p1
  obtain ⟨qs, rfl, hl, hq⟩ := p1
  obtain ⟨L, hL, hf⟩ := flat_words qs (fun p hp => argC_u64 (hq p hp))
  obtain ⟨pc, rfl⟩ := argC_u64 p2
  exact ⟨L, pc, by simp [hf], by omega⟩
theorem argC_rec {k : Nat} {cs : List AVal} (h : ArgC Tryz.prog (k + 4) 79 cs) : ∃ (rd : Int) (i : Nat) (rs : List Nat) (pc : Nat) (rn : Bool) (w : Int), cs = .int .i64 rd :: .int .u64 (i : Int) :: (wl rs ++ [.int .u64 (pc : Int), .bool rn, .int .i64 w]) ∧ rs.length = 8 := by
  unfold ArgC at h
  rw [Tryz.underlying79] at h
  obtain ⟨ps, rfl, hps⟩ := h
  cases hps with
  | cons p1 t1 =>
  cases t1 with
  | cons p2 t2 =>
  cases t2 with
  | cons p3 t3 =>
  cases t3 with
  | cons p4 t4 =>
  cases t4 with
  | cons p5 t5 =>
  cases t5
  obtain ⟨rd, rfl, _⟩ := argC_int Tryz.underlying3 p1
  obtain ⟨i, rfl⟩ := argC_u64 p2
  obtain ⟨rs, pc, rfl, hr⟩ := argC_cpu p3
  obtain ⟨rn, rfl⟩ := argC_bool p4
  obtain ⟨w, rfl, _⟩ := argC_int Tryz.underlying77 p5
  exact ⟨rd, i, rs, pc, rn, w, by simp, hr⟩
theorem argC_orec {k : Nat} {cs : List AVal} (h : ArgC Tryz.prog (k + 5) 81 cs) : ∃ r : Rc, cs = rcC r ∧ r.Ok := by
  unfold ArgC at h
  rw [Tryz.underlying81] at h
  obtain ⟨ps, rfl, hps⟩ := h
  cases hps with
  | cons p1 t1 =>
  cases t1 with
  | cons p2 t2 =>
  cases t2
  obtain ⟨g, rfl, _⟩ := argC_int Tryz.underlying3 p1
  obtain ⟨rd, i, rs, pc, rn, w, rfl, hr⟩ := argC_rec p2
  exact ⟨⟨g, rd, i, rs, pc, rn, w⟩, by simp [rcC], hr⟩
theorem list_els {α : Type} {k : Nat} {t : TypeId} (enc : α → List AVal) (Ok : α → Prop) (hw : ∀ x, wrapA Tryz.prog t (enc x) = .agg (enc x)) (he : ∀ cs, ArgC Tryz.prog k t cs → ∃ x, cs = enc x ∧ Ok x) :
    ∀ xs : List (List AVal), (∀ x ∈ xs, ArgC Tryz.prog k t x) → ∃ l : List α, xs.map (wrapA Tryz.prog t) = els enc l ∧ l.length = xs.length ∧ ∀ x ∈ l, Ok x
  | [], _ => ⟨[], rfl, rfl, fun _ h => by cases h⟩
  | x :: xs, h => by
    obtain ⟨l, h1, h2, h3⟩ := list_els enc Ok hw he xs fun y hy => h y (List.mem_cons_of_mem _ hy)
    obtain ⟨p, rfl, hp⟩ := he _ (h x (List.mem_cons_self ..))
    refine ⟨p :: l, ?_, by simp [h2], fun c hc => ?_⟩
    · rw [List.map_cons, h1, hw]; rfl
    · rcases List.mem_cons.1 hc with rfl | hc
      · exact hp
      · exact h3 c hc
theorem arg_own {v : AVal} (h : ArgV Tryz.prog 9 40 v) : ∃ (o : Ow) (n1 n2 : Bool), v = .agg (owC o n1 n2) ∧ o.W := by
  obtain ⟨cs, rfl, h⟩ := h
  unfold ArgC at h
  rw [Tryz.underlying40] at h
  obtain ⟨ps, rfl, hps⟩ := h
  cases hps with
  | cons p1 t1 =>
  cases t1 with
  | cons p2 t2 =>
  cases t2 with
  | cons p3 t3 =>
  cases t3 with
  | cons p4 t4 =>
  cases t4 with
  | cons p5 t5 =>
  cases t5 with
  | cons p6 t6 =>
  cases t6
  obtain ⟨i, rfl⟩ := argC_u64 p1
  obtain ⟨s, rfl, _⟩ := argC_int Tryz.underlying34 p2
  obtain ⟨m, rfl, hm⟩ := argC_digest p3
  obtain ⟨c, rfl⟩ := argC_u64 p4
  unfold ArgC at p5 p6
  rw [Tryz.underlying37] at p5
  rw [Tryz.underlying38] at p6
  obtain ⟨n1, xp, rfl, _, hl1, hx1⟩ := p5
  obtain ⟨n2, xr, rfl, _, hl2, hx2⟩ := p6
  obtain ⟨p, a1, a2, a3⟩ := list_els (t := 72) pgC Pg.Ok (fun x => by unfold wrapA; rw [Tryz.underlying72]) (fun cs h => argC_page h) xp hx1
  obtain ⟨r, b1, b2, b3⟩ := list_els (t := 81) rcC Rc.Ok (fun x => by unfold wrapA; rw [Tryz.underlying81]) (fun cs h => argC_orec h) xr hx2
  refine ⟨⟨i, s, m, c, p, r⟩, n1, n2, ?_, ⟨hm, by rw [a2]; exact hl1, by rw [b2]; exact hl2, a3, b3⟩⟩
  rw [a1, b1, show Tryz.prog.cellsOf 72 = 129 by kernel_rfl, show Tryz.prog.cellsOf 81 = 14 by kernel_rfl]
  unfold wrapA
  rw [Tryz.underlying40]
  simp [owC]
structure Vw.W (v : Vw) : Prop where
  s1 : v.s.length ≤ 9223372036854775807
  h1 : v.h.length ≤ 9223372036854775807
  b1 : v.b.length ≤ 9223372036854775807
  b2 : ∀ x ∈ v.b, x.length = 128
theorem trodAll_lengths {H : Type} {enc : TypeId × Value → H} {P : Program} {w : World} {base : Nat} {sp : Nat → Bool} {hd : Bool} : ∀ {ts : List TypeId} {vs : List Value} {ds : List (DataW H)} {ps : List MemPlace}, DataW.TrodAll enc P w base sp hd ts vs ds ps → ds.length = ts.length
  | [], [], [], _, _ => rfl
  | t :: ts, v :: vs, d :: ds, _, h => by
    obtain ⟨p, q, _, h2, _⟩ := h
    simp [trodAll_lengths h2]
  | [], [], _ :: _, _, h => h.elim
  | _ :: _, [], _, _, h => h.elim
  | [], _ :: _, _, _, h => h.elim
  | _ :: _, _ :: _, [], _, h => h.elim
def slicesB (P : Program) : Bool := (List.range P.types.size).all fun t => match P.underlying t with
  | some (.slice e) => Nat.blt 0 (P.cellsOf e)
  | _ => true
theorem slicesB_ok {P : Program} (h : slicesB P = true) {t e : TypeId} (ht : t < P.types.size) (he : P.underlying t = some (.slice e)) : 0 < P.cellsOf e := by
  have := List.all_eq_true.1 h t (List.mem_range.2 ht)
  rw [he] at this
  exact blt_iff.1 this
end Go.Am
namespace Go.Proofs.YtligpgckkbloaaaGreat
theorem own : ownKnob Tryz.prog.godebug = none := by kernel_rfl
theorem laidOut : laidOutB Tryz.prog = true := by kernel_rfl
theorem rowed : mapsRowed Tryz.prog = true := by kernel_rfl
theorem sliced : Go.Am.slicesB Tryz.prog = true := by kernel_rfl
end Go.Proofs.YtligpgckkbloaaaGreat
