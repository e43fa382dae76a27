/- Lines of steps: what script.Unline answers; the document's cut and number. -/
import Derived.Test.YtodiaabcaahnjaaGreatDoorS05
import Derived.Test.YtodiaabcaahnjaaGreatDoorL12
import Derived.Test.YtodiaabcaahnjaaGreatDoorAmFreshG
set_option linter.unusedVariables false
set_option linter.unusedSimpArgs false
section
namespace Go.Am
open Go Go.Proofs
set_option maxHeartbeats 8000000
set_option maxRecDepth 100000
section
attribute [local irreducible] aC aL thenQ blockQ scopeQ ALoop AWp
theorem cnm_ne {op : Int} (h : 1 ≤ op ∧ op ≤ 21) : cnm op ≠ LOAD ∧ cnm op ≠ STORE ∧ cnm op ≠ VERIFY := by
  obtain ⟨k, rfl⟩ := Int.eq_ofNat_of_zero_le (show 0 ≤ op by omega)
  have hall : ((List.range 22).all fun k => decide (cnm (k : Nat) ≠ LOAD) && decide (cnm (k : Nat) ≠ STORE) && decide (cnm (k : Nat) ≠ VERIFY)) = true := by decide +kernel
  have := List.all_eq_true.1 hall k (List.mem_range.2 (by omega))
  simp only [Bool.and_eq_true, decide_eq_true_eq] at this
  exact ⟨this.1.1, this.1.2, this.2⟩
theorem step_nocall {s : List UInt8} {st : Sp} (h : IsStep s st) (h1 : st.k ≠ 1) : ∀ op xs, ¬ IsCall s op xs := by
  intro op xs hc
  have hp := call_parts hc
  obtain ⟨n1, n2, n3⟩ := cnm_ne hc.1.1
  obtain ⟨hm, hok, rfl⟩ := h
  obtain ⟨k, op', xs', a, w, b⟩ := st
  rcases hm with hm | ⟨_, h4⟩
  · exact h1 hm.1
  · simp only at h4
    rcases h4 with ⟨rfl, _, _⟩ | ⟨rfl, _⟩ | ⟨rfl, _, _, _⟩
    · have e : lineS ⟨2, op', xs', a, w, b⟩ = LOAD ++ 32 :: Lib.decDigits a := by simp [lineS, numT, LOAD]
      rw [e, parts_hit 32 _ _ (by decide)] at hp
      exact n1 (List.cons.inj hp).1.symm
    · have e : lineS ⟨3, op', xs', a, w, b⟩ = STORE ++ 32 :: (Lib.decDigits a ++ 32 :: Lib.decDigits w) := by simp [lineS, numT, STORE]
      rw [e, parts_hit 32 _ _ (by decide)] at hp
      exact n2 (List.cons.inj hp).1.symm
    · by_cases hb0 : b = []
      · subst hb0
        have e : lineS ⟨4, op', xs', a, w, []⟩ = VERIFY := by simp [lineS]
        rw [e, parts_miss 32 _ (by decide)] at hp
        exact n3 (List.cons.inj hp).1.symm
      · have e : lineS ⟨4, op', xs', a, w, b⟩ = VERIFY ++ 32 :: hexl b := by simp [lineS, hb0]
        rw [e, parts_hit 32 _ _ (by decide)] at hp
        exact n3 (List.cons.inj hp).1.symm
theorem unline_call (s : List UInt8) (hs : s.length ≤ 9000) (op : Int) (xs : List Nat) (h : IsCall s op xs) :
    APure cx 9 [.str s] (.tup [.agg (spC ⟨1, op, xs, 0, 0, []⟩ true .any), .int .i64 0]) := by
  have hu := call_Untext s (by omega) _ (.inl ⟨op, xs, h, rfl⟩)
  obtain ⟨x0, x1, x2, x3, x4, x5, rfl⟩ := six h.2.1
  simp only [spC_six, wl_six, bl_nil, nz] at *
  clear h
  refine pure_fn cxOk Tryz.func9 (by kernel_rfl) (fun _ => false) (fe9.q) (by kernel_rfl) (Nat.le_of_ble_eq_true (by kernel_rfl)) ?_
  dsimp only [LB, Tryz.f9, lite, nextOf, Option.isNone, Bool.not_true, Bool.not_false, Bool.and_true, Bool.true_and, Bool.false_and, Bool.and_self, Bool.false_eq_true, if_false, if_true, ↓reduceIte, liteO, List.map, Option.map, frame0, List.zipIdx, Nat.reduceAdd]
  try simp only [List.getElem?_toArray, List.getElem?_cons_succ, List.getElem?_cons_zero, Option.bind_some]
  repeat' (first | refine aC_seq ?_ | refine aC_reg rfl ?_ | refine aC_ret ?_ | refine thenQ_normal ?_ | refine thenQ_ret ?_ | refine aL_nil ?_ | (apply aL_step; (· exact True.intro); (· simp (disch := first | omega | (simp only [go_sem]; omega)) only [go_sem, get_miss, seval, reduceCtorEq]); (· simp (disch := first | omega | (simp only [go_sem]; omega)) only [go_sem, get_miss, seval, reduceCtorEq] <;> with_reducible rfl); (· simp only [go_sem] <;> with_reducible rfl)) | (refine aC_condT ?_ ?_; (· simp (disch := first | omega | (simp only [go_sem]; omega)) only [go_sem, get_miss, seval, reduceCtorEq])) | (apply aL_pure cxG (hu); (case hg => (simp (disch := first | omega | (simp only [go_sem]; omega)) only [go_sem, get_miss, seval, reduceCtorEq])); (case hx => (simp (disch := first | omega | (simp only [go_sem]; omega)) only [go_sem, get_miss, seval, reduceCtorEq] <;> with_reducible rfl)); (case ha => (simp (disch := first | omega | (simp only [go_sem]; omega)) only [go_sem, get_miss, seval, reduceCtorEq] <;> with_reducible rfl)); (case he => (simp only [go_sem] <;> with_reducible rfl)); (case hcl => (simp)); (case hf => (simp only [go_sem] <;> with_reducible rfl))) | fail)
  all_goals try (first | exact True.intro | exact not_false | omega)
  all_goals try (simp (disch := first | omega | (simp only [go_sem]; omega)) only [go_sem, get_miss, seval, reduceCtorEq] <;> first | exact True.intro | omega)
  all_goals clear hu
  all_goals try (simp (disch := first | omega | (simp only [go_sem]; omega)) only [go_sem, get_miss, seval, reduceCtorEq])
  all_goals try simp
theorem script_Unline (s : List UInt8) (hs : s.length ≤ 9000) (r : AVal) (hr : (∃ st, IsStep s st ∧ r = .tup [.agg (spC st st.b.isEmpty .any), .int .i64 0]) ∨
    ((∀ st, ¬ IsStep s st) ∧ r = .tup [.agg (spC Sp.zero true .any), .int .i64 4])) : APure cx 9 [.str s] r := by
  rcases hr with ⟨st, h, rfl⟩ | ⟨h, rfl⟩
  · by_cases h1 : st.k = 1
    · obtain ⟨hc, he⟩ := step_call h h1
      have := unline_call s hs _ _ hc
      rw [← he] at this
      have hb : st.b = [] := by rw [he]
      rw [hb]
      exact this
    · have hn := step_nocall h h1
      have hcd := cand_is h h1
      have := unline_cand s hs hn
      rw [hcd, if_pos ⟨h.1, h.2.2⟩] at this
      exact this
  · have hn : ∀ op xs, ¬ IsCall s op xs := fun op xs hc => h _ (call_step hc)
    have := unline_cand s hs hn
    rw [if_neg fun q => h (cand s) ⟨q.1, (cand_ok s hs).1, q.2⟩] at this
    exact this
theorem ref_number25 (s : List UInt8) (hs : s.length ≤ 1048576) : APure cx 38 [.str s] (.int .u64 (rnum (s.take 20) : Nat)) := by
  refine pure_fn cxOk Tryz.func38 (by kernel_rfl) (fun _ => false) (fun _ => none) (by kernel_rfl) (Nat.le_of_ble_eq_true (by kernel_rfl)) ?_
  dsimp only [LB, Tryz.f38, lite, nextOf, Option.isNone, Bool.not_true, Bool.not_false, Bool.and_true, Bool.true_and, Bool.false_and, Bool.and_self, Bool.false_eq_true, if_false, if_true, ↓reduceIte, liteO, List.map, Option.map, frame0, List.zipIdx, Nat.reduceAdd]
  try simp only [List.getElem?_toArray, List.getElem?_cons_succ, List.getElem?_cons_zero, Option.bind_some]
  repeat' (first | refine aC_seq ?_ | refine aC_reg rfl ?_ | refine aC_block ?_ | refine aC_loop ?_ | refine thenQ_normal ?_ | refine aL_nil ?_ | (apply aL_step; (· exact True.intro); (· simp (disch := first | omega | (simp only [go_sem]; omega)) only [go_sem, get_miss, seval, reduceCtorEq]); (· simp (disch := first | omega | (simp only [go_sem]; omega)) only [go_sem, get_miss, seval, reduceCtorEq] <;> with_reducible rfl); (· simp only [go_sem] <;> with_reducible rfl)) | fail)
  · refine loop_rule (cxOk.wp _ _) (σ := Nat) (fun k => [(4, .int .i64 k), (3, .int .u64 (rnum (s.take k) : Nat)), (0, .str s)])
      (fun _ => []) (fun k => s.length - k) (fun k => k ≤ s.length ∧ k ≤ 20) 0 (GStep.refl _ _) ⟨⟨Nat.zero_le _, by decide⟩, Sub.of_all (by simp [Fr.get, rnum_nil0]), rfl⟩ ?_
    rintro k ⟨hk, hk20⟩
    by_cases hlt : k < s.length
    · by_cases h20 : k < 20
      · have hst := rnum_take s k hlt
        have hrq := rst_eq (rnum (s.take k)) s[k]
        have hgk : s.getD k 0 = s[k] := by simp [List.getD, hlt]
        have hcl := u8_lt s[k]
        rw [← hst] at hrq
        generalize hv2 : rnum (s.take (k + 1)) = v2 at *
        generalize rnum (s.take k) = v1 at *
        generalize s[k] = c at *
        repeat' (first | refine aC_seq ?_ | refine aC_reg rfl ?_ | refine aC_block ?_ | refine aC_skip ?_ | refine thenQ_normal ?_ | refine blockQ_normal ?_ | refine aL_nil ?_ | (apply aL_step; (· exact True.intro); (· simp (disch := first | omega | (simp only [go_sem]; omega)) only [go_sem, get_miss, seval, reduceCtorEq, hgk, hrq]); (· simp (disch := first | omega | (simp only [go_sem]; omega)) only [go_sem, get_miss, seval, reduceCtorEq, hgk, hrq] <;> with_reducible rfl); (· simp only [go_sem] <;> with_reducible rfl)) | (apply aL_guardP; (· simp (disch := first | omega | (simp only [go_sem]; omega)) only [go_sem, get_miss, seval, reduceCtorEq, hgk, hrq] <;> with_reducible rfl); all_goals (intro h; first | (exfalso; omega) | (simp only [h, decide_true, decide_false, not_true, not_false_iff]))) | (refine aC_condP (by simp (disch := first | omega | (simp only [go_sem]; omega)) only [go_sem, get_miss, seval, reduceCtorEq, hgk, hrq] <;> with_reducible rfl) ?_ ?_ <;> (intro h; first | (exfalso; omega) | skip)) | fail)
        all_goals try (first | exact True.intro | exact not_false | omega)
        all_goals try (simp (disch := first | omega | (simp only [go_sem]; omega)) only [go_sem, get_miss, seval, reduceCtorEq] <;> first | exact True.intro | omega)
        all_goals exact ⟨k + 1, ⟨by omega, by omega⟩, Sub.of_all (by simp [Fr.get, hv2]), by simp, by omega⟩
      · have hk2 : k = 20 := by omega
        subst hk2
        generalize rnum (s.take 20) = v1 at *
        repeat' (first | refine aC_seq ?_ | refine aC_reg rfl ?_ | refine aC_exit ?_ | refine aC_ret ?_ | refine thenQ_normal ?_ | refine thenQ_exit ?_ | refine blockQ_hit ?_ | refine aL_nil ?_ | (apply aL_step; (· exact True.intro); (· simp (disch := first | omega | (simp only [go_sem]; omega)) only [go_sem, get_miss, seval, reduceCtorEq]); (· simp (disch := first | omega | (simp only [go_sem]; omega)) only [go_sem, get_miss, seval, reduceCtorEq] <;> with_reducible rfl); (· simp only [go_sem] <;> with_reducible rfl)) | (apply aL_guardP; (· simp (disch := first | omega | (simp only [go_sem]; omega)) only [go_sem, get_miss, seval, reduceCtorEq] <;> with_reducible rfl); all_goals (intro h; first | (exfalso; omega) | (simp only [h, decide_true, decide_false, not_true, not_false_iff]))) | (refine aC_condF ?_ ?_; (· simp (disch := first | omega | (simp only [go_sem]; omega)) only [go_sem, get_miss, seval, reduceCtorEq])) | fail)
        all_goals try (first | exact True.intro | exact not_false | omega)
        all_goals try (simp (disch := first | omega | (simp only [go_sem]; omega)) only [go_sem, get_miss, seval, reduceCtorEq] <;> first | exact True.intro | omega)
        all_goals try (simp (disch := first | omega | (simp only [go_sem]; omega)) only [go_sem, get_miss, seval, reduceCtorEq])
        all_goals try simp
    · have hk2 : k = s.length := by omega
      subst hk2
      have e : s.take s.length = s.take 20 := by rw [List.take_of_length_le (Nat.le_refl _), List.take_of_length_le (by omega)]
      rw [e] at *
      generalize rnum (s.take 20) = v1 at *
      repeat' (first | refine aC_seq ?_ | refine aC_reg rfl ?_ | refine aC_exit ?_ | refine aC_ret ?_ | refine thenQ_normal ?_ | refine thenQ_exit ?_ | refine blockQ_hit ?_ | refine aL_nil ?_ | (apply aL_step; (· exact True.intro); (· simp (disch := first | omega | (simp only [go_sem]; omega)) only [go_sem, get_miss, seval, reduceCtorEq]); (· simp (disch := first | omega | (simp only [go_sem]; omega)) only [go_sem, get_miss, seval, reduceCtorEq] <;> with_reducible rfl); (· simp only [go_sem] <;> with_reducible rfl)) | (refine aL_skip ?_ (by simp only [go_sem] <;> with_reducible rfl) ?_; (· simp (disch := first | omega | (simp only [go_sem]; omega)) only [go_sem, get_miss, seval, reduceCtorEq])) | (apply aL_guardP; (· simp (disch := first | omega | (simp only [go_sem]; omega)) only [go_sem, get_miss, seval, reduceCtorEq] <;> with_reducible rfl); all_goals (intro h; first | (exfalso; omega) | (simp only [h, decide_true, decide_false, not_true, not_false_iff]))) | (refine aC_condF ?_ ?_; (· simp (disch := first | omega | (simp only [go_sem]; omega)) only [go_sem, get_miss, seval, reduceCtorEq])) | fail)
      all_goals try (first | exact True.intro | exact not_false | omega)
      all_goals try (simp (disch := first | omega | (simp only [go_sem]; omega)) only [go_sem, get_miss, seval, reduceCtorEq] <;> first | exact True.intro | omega)
      all_goals try (simp (disch := first | omega | (simp only [go_sem]; omega)) only [go_sem, get_miss, seval, reduceCtorEq])
      all_goals try simp
  all_goals exact True.intro
end
end Go.Am
end
section
namespace Go.Am
open Go Go.Proofs
set_option maxHeartbeats 8000000
set_option maxRecDepth 100000
section
attribute [local irreducible] aC aL thenQ blockQ scopeQ ALoop AWp
theorem ref_SameStep (s t : Sp) (hs : s.xs.length = 6) (ht : t.xs.length = 6) (hsb : s.b.length ≤ 1048576) (htb : t.b.length ≤ 1048576) (n1 n2 : Bool) :
    APure cx 11 [.agg (spC s n1 .any), .agg (spC t n2 .any)] (.bool (decide (s = t))) := by
  obtain ⟨k, op, xs, a, w, b⟩ := s
  obtain ⟨k', op', xs', a', w', b'⟩ := t
  obtain ⟨x0, x1, x2, x3, x4, x5, rfl⟩ := six hs
  obtain ⟨y0, y1, y2, y3, y4, y5, rfl⟩ := six ht
  rw [spC_six, spC_six]
  have hsm := ref_same n1 n2 b b' hsb htb
  refine pure_fn cxOk Tryz.func11 (by kernel_rfl) (fun _ => false) (fun _ => none) (by kernel_rfl) (Nat.le_of_ble_eq_true (by kernel_rfl)) ?_
  dsimp only [LB, Tryz.f11, lite, nextOf, Option.isNone, Bool.not_true, Bool.not_false, Bool.and_true, Bool.true_and, Bool.false_and, Bool.and_self, Bool.false_eq_true, if_false, if_true, ↓reduceIte, liteO, List.map, Option.map, frame0, List.zipIdx, Nat.reduceAdd]
  try simp only [List.getElem?_toArray, List.getElem?_cons_succ, List.getElem?_cons_zero, Option.bind_some]
  repeat' (first | refine aC_seq ?_ | refine aC_reg rfl ?_ | refine aC_ret ?_ | refine thenQ_normal ?_ | refine aL_nil ?_ | (apply aL_step; (· exact True.intro); (· simp (disch := first | omega | (simp only [go_sem]; omega)) only [go_sem, get_miss, seval, reduceCtorEq]); (· simp (disch := first | omega | (simp only [go_sem]; omega)) only [go_sem, get_miss, seval, reduceCtorEq] <;> with_reducible rfl); (· simp only [go_sem] <;> with_reducible rfl)) | (refine aL_skip ?_ (by simp only [go_sem] <;> with_reducible rfl) ?_; (· simp (disch := first | omega | (simp only [go_sem]; omega)) only [go_sem, get_miss, seval, reduceCtorEq])) | (apply aL_guardP; (· simp (disch := first | omega | (simp only [go_sem]; omega)) only [go_sem, get_miss, seval, reduceCtorEq] <;> with_reducible rfl); all_goals (intro h; first | (exfalso; omega) | (simp only [h, decide_true, decide_false, not_true, not_false_iff]))) | (apply aL_pure cxG (hsm); (case hg => (simp (disch := first | omega | (simp only [go_sem]; omega)) only [go_sem, get_miss, seval, reduceCtorEq])); (case hx => (simp (disch := first | omega | (simp only [go_sem]; omega)) only [go_sem, get_miss, seval, reduceCtorEq] <;> with_reducible rfl)); (case ha => (simp (disch := first | omega | (simp only [go_sem]; omega)) only [go_sem, get_miss, seval, reduceCtorEq] <;> with_reducible rfl)); (case he => (simp only [go_sem] <;> with_reducible rfl)); (case hcl => (simp)); (case hf => (simp only [go_sem] <;> with_reducible rfl))) | fail)
  all_goals try (first | exact True.intro | exact not_false | omega)
  all_goals try (simp (disch := first | omega | (simp only [go_sem]; omega)) only [go_sem, get_miss, seval, reduceCtorEq] <;> first | exact True.intro | omega)
  all_goals clear hsm
  all_goals try (simp (disch := first | omega | (simp only [go_sem]; omega)) only [go_sem, get_miss, seval, reduceCtorEq])
  all_goals try simp
  all_goals try (exact ⟨by kernel_rfl, by kernel_rfl⟩)
  all_goals clear hs ht hsb htb
  all_goals simp_all [Int.ofNat_inj]
def rc2 (p1 : List UInt8) : Sp := ⟨2, 0, Z6, rnum (p1.take 20), 0, []⟩
def rc3 (p1 p2 : List UInt8) : Sp := ⟨3, 0, Z6, rnum (p1.take 20), rnum (p2.take 20), []⟩
def rc4 (p1 : List UInt8) : Sp := ⟨4, 0, Z6, 0, 0, unpre p1⟩
def pt (s : List UInt8) (k : Nat) : List UInt8 := (parts s [32] ++ [[], []]).getD k []
theorem step_unique {s : List UInt8} {st st' : Sp} (h : IsStep s st) (h' : IsStep s st') (h1 : st.k ≠ 1) (h1' : st'.k ≠ 1) : st = st' := (cand_is h h1).symm.trans (cand_is h' h1')
theorem dec20 (u : Nat) (h : u < 18446744073709551616) : rnum ((Lib.decDigits u).take 20) = u := by
  rw [List.take_of_length_le (dec_len u h), rnum_dec u h]
theorem ref_cand {s : List UInt8} {st : Sp} (h : IsStep s st) (h1 : st.k ≠ 1) : st = rc2 (pt s 1) ∨ st = rc3 (pt s 1) (pt s 2) ∨ (goodp (pt s 1) = true ∧ st = rc4 (pt s 1)) := by
  obtain ⟨hm, hok, rfl⟩ := h
  obtain ⟨k, op, xs, a, w, b⟩ := st
  have haw := hok.aw
  have hww := hok.ww
  simp only at haw hww
  rcases hm with hm | ⟨⟨h2, h3⟩, h4⟩
  · exact absurd hm.1 h1
  · simp only at h2 h3
    subst h2 h3
    rcases h4 with ⟨hk, hw, hb⟩ | ⟨hk, hb⟩ | ⟨hk, ha, hw, hb⟩
    · simp only at hk hw hb
      subst hk hw hb
      have e : lineS ⟨2, 0, [0, 0, 0, 0, 0, 0], a, 0, []⟩ = LOAD ++ 32 :: Lib.decDigits a := by simp [lineS, numT, LOAD]
      left
      unfold pt rc2
      rw [e, parts_hit 32 _ _ (by decide), parts_miss 32 _ (dec_cut a)]
      simp [Z6, dec20 a haw]
    · simp only at hk hb
      subst hk hb
      have e : lineS ⟨3, 0, [0, 0, 0, 0, 0, 0], a, w, []⟩ = STORE ++ 32 :: (Lib.decDigits a ++ 32 :: Lib.decDigits w) := by simp [lineS, numT, STORE]
      right; left
      unfold pt rc3
      rw [e, parts_hit 32 _ _ (by decide), parts_hit 32 _ _ (dec_cut a), parts_miss 32 _ (dec_cut w)]
      simp [Z6, dec20 a haw, dec20 w hww]
    · simp only at hk ha hw
      subst hk ha hw
      right; right
      by_cases hb0 : b = []
      · subst hb0; exact ⟨rfl, rfl⟩
      · have e : lineS ⟨4, 0, [0, 0, 0, 0, 0, 0], 0, 0, b⟩ = VERIFY ++ 32 :: hexl b := by simp [lineS, hb0]
        obtain ⟨g1, g2, g3⟩ := hexl_ok b
        have e1 : pt (lineS ⟨4, 0, [0, 0, 0, 0, 0, 0], 0, 0, b⟩) 1 = hexl b := by
          unfold pt
          rw [e, parts_hit 32 _ _ (by decide), parts_miss 32 _ g3]
          simp
        rw [e1]
        exact ⟨g1, by unfold rc4; rw [g2]; rfl⟩
theorem pt_len (s : List UInt8) (k : Nat) : (pt s k).length ≤ s.length := by
  unfold pt
  by_cases hk : k < (parts s [32]).length
  · have e : (parts s [32] ++ [[], []] : List (List UInt8)).getD k [] = (parts s [32])[k] := by simp [List.getD, List.getElem?_append, hk]
    rw [e]
    exact parts_sizes s [32] _ (List.getElem_mem hk)
  · have e : (parts s [32] ++ [[], []] : List (List UInt8)).getD k [] = [] := by
      simp only [List.getD, List.getElem?_append, if_neg hk]
      rcases h : k - (parts s [32]).length with _ | _ | n <;> simp
    rw [e]
    simp
theorem unpre_le (l : List UInt8) : (unpre l).length ≤ l.length := by
  induction l using unpre.induct with
  | case1 a b r ih => simp only [unpre, List.length_cons]; omega
  | case2 t h => rw [unpre.eq_def]; split <;> simp_all
theorem rc_ok (s : List UInt8) (hs : s.length ≤ 9000) : (rc2 (pt s 1)).Ok ∧ (rc3 (pt s 1) (pt s 2)).Ok ∧ (rc4 (pt s 1)).Ok := by
  have hz : ∀ x ∈ Z6, x < 18446744073709551616 := by decide
  have h0 := (show (0 : Nat) < 18446744073709551616 by decide)
  have := unpre_le (pt s 1)
  have := pt_len s 1
  exact ⟨⟨rfl, hz, rnum_lt _, h0, by simp [rc2]⟩, ⟨rfl, hz, rnum_lt _, rnum_lt _, by simp [rc3]⟩, ⟨rfl, hz, h0, h0, by simp only [rc4]; omega⟩⟩
end
end Go.Am
end
section
namespace Go.Am
open Go Go.Proofs
set_option maxHeartbeats 8000000
set_option maxRecDepth 100000
section
attribute [local irreducible] aC aL thenQ blockQ scopeQ ALoop AWp
theorem ref_cutG0 (s : List UInt8) (hs : s.length ≤ 1048576) : ACall cx 36 [.str s] [] (.sl 1 false ((cutA 32 [] s).map .str) (.own 0)) [.grow ((cutA 32 [] s).map AVal.str).length 1 9] := by
  refine acall_fn cxOk Tryz.func36 (by kernel_rfl) (fun _ => false) (fe36.q) (by kernel_rfl) (Nat.le_of_ble_eq_true (by kernel_rfl)) ?_
  dsimp only [LB, Tryz.f36, lite, nextOf, Option.isNone, Bool.not_true, Bool.not_false, Bool.and_true, Bool.true_and, Bool.false_and, Bool.and_self, Bool.false_eq_true, if_false, if_true, ↓reduceIte, liteO, List.map, Option.map, frame0, List.zipIdx, Nat.reduceAdd]
  try simp only [List.getElem?_toArray, List.getElem?_cons_succ, List.getElem?_cons_zero, Option.bind_some]
  repeat' (first | refine aC_seq ?_ | refine aC_reg rfl ?_ | refine aC_block ?_ | refine aC_loop ?_ | refine thenQ_normal ?_ | refine aL_nil ?_ | (apply aL_step; (· exact True.intro); (· simp (disch := first | omega | (simp only [go_sem]; omega)) only [go_sem, get_miss, seval, reduceCtorEq]); (· simp (disch := first | omega | (simp only [go_sem]; omega)) only [go_sem, get_miss, seval, reduceCtorEq] <;> with_reducible rfl); (· simp only [go_sem] <;> with_reducible rfl)) | fail)
  · refine loop_rule (cxOk.wp _ _) (σ := Nat × Nat × List (List UInt8)) (fun x => [(3, .sl 1 x.2.2.isEmpty (x.2.2.map .str) (.own 0)), (4, .int .i64 x.2.1), (5, .int .i64 x.1), (0, .str s)])
      (fun x => [.grow x.2.2.length 1 9]) (fun x => s.length + 1 - x.1) (fun x => x.2.2.length ≤ x.1 ∧ ((x.1 ≤ s.length ∧ x.2.1 ≤ x.1 ∧ cutA 32 [] s = x.2.2 ++ cutA 32 ((s.take x.1).drop x.2.1) (s.drop x.1)) ∨ (x.1 = s.length + 1 ∧ cutA 32 [] s = x.2.2)))
      (0, 0, []) (GStep.nilO 3 1 9 rfl) ⟨⟨Nat.le_refl _, .inl ⟨Nat.zero_le _, Nat.le_refl _, by simp⟩⟩, Sub.of_all (by simp [Fr.get, frame0]), by simp⟩ ?_
    rintro ⟨i, at_, L⟩ ⟨hLi, hJ⟩
    simp only at hLi hJ ⊢
    rcases hJ with ⟨h1, h2, h3⟩ | ⟨h1, h3⟩
    · by_cases hlt : i < s.length
      · have hd : s.drop i = s[i] :: s.drop (i + 1) := List.drop_eq_getElem_cons hlt
        have hg : s.getD i 0 = s[i] := by simp [List.getD, hlt]
        have ht : (s.take (i + 1)).drop at_ = (s.take i).drop at_ ++ [s[i]] := by
          rw [List.take_succ_eq_append_getElem hlt, List.drop_append_of_le_length (by simp; omega)]
        rw [hd] at h3
        simp only [cutA] at h3
        by_cases h32 : s[i] = 32
        · rw [if_pos h32] at h3
          repeat' (first | refine aC_seq ?_ | refine aC_reg rfl ?_ | refine aC_block ?_ | refine aC_skip ?_ | refine thenQ_normal ?_ | refine blockQ_normal ?_ | refine aL_nil ?_ | (apply aL_step; (· exact True.intro); (· simp (disch := first | omega | (simp only [go_sem]; omega)) only [go_sem, get_miss, seval, reduceCtorEq, hg, h32, show (((32 : UInt8).toNat : Nat) : Int) = 32 from rfl, eq_self_iff_true, decide_true]); (· simp (disch := first | omega | (simp only [go_sem]; omega)) only [go_sem, get_miss, seval, reduceCtorEq, hg, h32, show (((32 : UInt8).toNat : Nat) : Int) = 32 from rfl, eq_self_iff_true, decide_true] <;> with_reducible rfl); (· simp only [go_sem] <;> with_reducible rfl)) | (apply aL_guardN; (· simp (disch := first | omega | (simp only [go_sem]; omega)) only [go_sem, get_miss, seval, reduceCtorEq, hg, h32, show (((32 : UInt8).toNat : Nat) : Int) = 32 from rfl, eq_self_iff_true, decide_true] <;> with_reducible rfl); all_goals (intro h; first | (exfalso; omega) | (simp only [h, decide_true, decide_false, not_true, not_false_iff]))) | (refine aC_condT ?_ ?_; (· simp (disch := first | omega | (simp only [go_sem]; omega)) only [go_sem, get_miss, seval, reduceCtorEq, hg, h32, show (((32 : UInt8).toNat : Nat) : Int) = 32 from rfl, eq_self_iff_true, decide_true])) | (refine aC_condP (by simp (disch := first | omega | (simp only [go_sem]; omega)) only [go_sem, get_miss, seval, reduceCtorEq, hg, h32, show (((32 : UInt8).toNat : Nat) : Int) = 32 from rfl, eq_self_iff_true, decide_true] <;> with_reducible rfl) ?_ ?_ <;> (intro h; first | (exfalso; omega) | skip)) | fail)
          all_goals try (first | exact True.intro | exact not_false | omega)
          all_goals try (simp (disch := first | omega | (simp only [go_sem]; omega)) only [go_sem, get_miss, seval, reduceCtorEq] <;> first | exact True.intro | omega)
          all_goals exact ⟨(i + 1, i + 1, L ++ [(s.take i).drop at_]), ⟨by simp; omega, .inl ⟨by omega, Nat.le_refl _, by rw [h3]; simp⟩⟩, Sub.of_all (by simp [Fr.get]), by simp, by simp; omega⟩
        · rw [if_neg h32, ← ht] at h3
          have hne : ¬ ((s[i].toNat : Int) = 32) := fun e => h32 (UInt8.toNat_inj.1 (by rw [show (32 : UInt8).toNat = 32 from rfl]; omega))
          repeat' (first | refine aC_seq ?_ | refine aC_reg rfl ?_ | refine aC_block ?_ | refine aC_skip ?_ | refine thenQ_normal ?_ | refine blockQ_normal ?_ | refine aL_nil ?_ | (apply aL_step; (· exact True.intro); (· simp (disch := first | omega | (simp only [go_sem]; omega)) only [go_sem, get_miss, seval, reduceCtorEq, hg, hne, decide_false]); (· simp (disch := first | omega | (simp only [go_sem]; omega)) only [go_sem, get_miss, seval, reduceCtorEq, hg, hne, decide_false] <;> with_reducible rfl); (· simp only [go_sem] <;> with_reducible rfl)) | (apply aL_guardN; (· simp (disch := first | omega | (simp only [go_sem]; omega)) only [go_sem, get_miss, seval, reduceCtorEq, hg, hne, decide_false] <;> with_reducible rfl); all_goals (intro h; first | (exfalso; omega) | (simp only [h, decide_true, decide_false, not_true, not_false_iff]))) | (refine aC_condF ?_ ?_; (· simp (disch := first | omega | (simp only [go_sem]; omega)) only [go_sem, get_miss, seval, reduceCtorEq, hg, hne, decide_false])) | (refine aC_condP (by simp (disch := first | omega | (simp only [go_sem]; omega)) only [go_sem, get_miss, seval, reduceCtorEq, hg, hne, decide_false] <;> with_reducible rfl) ?_ ?_ <;> (intro h; first | (exfalso; omega) | skip)) | fail)
          all_goals try (first | exact True.intro | exact not_false | omega)
          all_goals try (simp (disch := first | omega | (simp only [go_sem]; omega)) only [go_sem, get_miss, seval, reduceCtorEq] <;> first | exact True.intro | omega)
          all_goals exact ⟨(i + 1, at_, L), ⟨by simp; omega, .inl ⟨by omega, by simp; omega, h3⟩⟩, Sub.of_all (by simp [Fr.get]), rfl, by simp; omega⟩
      · have hi : i = s.length := by omega
        subst hi
        repeat' (first | refine aC_seq ?_ | refine aC_reg rfl ?_ | refine aC_block ?_ | refine aC_skip ?_ | refine thenQ_normal ?_ | refine blockQ_normal ?_ | refine aL_nil ?_ | (apply aL_step; (· exact True.intro); (· simp (disch := first | omega | (simp only [go_sem]; omega)) only [go_sem, get_miss, seval, reduceCtorEq]); (· simp (disch := first | omega | (simp only [go_sem]; omega)) only [go_sem, get_miss, seval, reduceCtorEq] <;> with_reducible rfl); (· simp only [go_sem] <;> with_reducible rfl)) | (refine aL_skip ?_ (by simp only [go_sem] <;> with_reducible rfl) ?_; (· simp (disch := first | omega | (simp only [go_sem]; omega)) only [go_sem, get_miss, seval, reduceCtorEq])) | (refine aC_condT ?_ ?_; (· simp (disch := first | omega | (simp only [go_sem]; omega)) only [go_sem, get_miss, seval, reduceCtorEq])) | (refine aC_condP (by simp (disch := first | omega | (simp only [go_sem]; omega)) only [go_sem, get_miss, seval, reduceCtorEq] <;> with_reducible rfl) ?_ ?_ <;> (intro h; first | (exfalso; omega) | skip)) | fail)
        all_goals try (first | exact True.intro | exact not_false | omega)
        all_goals try (simp (disch := first | omega | (simp only [go_sem]; omega)) only [go_sem, get_miss, seval, reduceCtorEq] <;> first | exact True.intro | omega)
        all_goals exact ⟨(s.length + 1, s.length + 1, L ++ [s.drop at_]), ⟨by simp; omega, .inr ⟨rfl, by rw [h3]; simp [cutA]⟩⟩, Sub.of_all (by simp [Fr.get]), by simp, by simp⟩
    · subst h1
      have hne : L.isEmpty = false := by
        rw [← h3]
        cases hq : cutA 32 [] s with
        | nil => exact absurd hq (cutA_ne 32 s [])
        | cons a l => rfl
      subst h3
      repeat' (first | refine aC_seq ?_ | refine aC_reg rfl ?_ | refine aC_exit ?_ | refine aC_ret ?_ | refine thenQ_normal ?_ | refine thenQ_exit ?_ | refine blockQ_hit ?_ | refine aL_nil ?_ | (apply aL_step; (· exact True.intro); (· simp (disch := first | omega | (simp only [go_sem]; omega)) only [go_sem, get_miss, seval, reduceCtorEq]); (· simp (disch := first | omega | (simp only [go_sem]; omega)) only [go_sem, get_miss, seval, reduceCtorEq] <;> with_reducible rfl); (· simp only [go_sem] <;> with_reducible rfl)) | (refine aC_condP (by simp (disch := first | omega | (simp only [go_sem]; omega)) only [go_sem, get_miss, seval, reduceCtorEq] <;> with_reducible rfl) ?_ ?_ <;> (intro h; first | (exfalso; omega) | skip)) | fail)
      all_goals try (first | exact True.intro | exact not_false | omega)
      all_goals try (simp (disch := first | omega | (simp only [go_sem]; omega)) only [go_sem, get_miss, seval, reduceCtorEq] <;> first | exact True.intro | omega)
      all_goals try (simp (disch := first | omega | (simp only [go_sem]; omega)) only [go_sem, get_miss, seval, reduceCtorEq, hne])
      all_goals try simp
  all_goals trivial
theorem ref_cutG (s : List UInt8) (hs : s.length ≤ 1048576) (S : St) : ACall cx 36 [.str s] S (.sl 1 false ((parts s [32]).map .str) (.own S.length)) (S ++ [.grow ((parts s [32]).map AVal.str).length 1 9]) := by
  have h := ref_cutG0 s hs
  rw [cutA_parts 32 s.length s (Nat.le_refl _)] at h
  refine ACall.freshG cxG h rfl (fun e => ?_) (fun x hx => by obtain ⟨b, _, rfl⟩ := List.mem_map.1 hx; exact ⟨.str _, rfl⟩) (by simp [bels, bel]) S
  obtain ⟨w0, wr, hw, _⟩ := parts_len s [32] (by decide)
  rw [hw] at e
  cases e
end
end Go.Am
end
