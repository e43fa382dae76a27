/- A script's text: the document's Text. -/
import Derived.Test.YtodiaabcaahnjaaGreatDoorS21
set_option linter.unusedVariables false
set_option linter.unusedSimpArgs false
section
namespace Go.Am
open Go Go.Proofs
set_option maxHeartbeats 8000000
set_option maxRecDepth 100000
section
attribute [local irreducible] aC aL thenQ blockQ scopeQ ALoop AWp
theorem ref_Text25 (s : Su) (hs : s.Ok) (nd ne ns : Bool) (l : List (Sp × Bool)) (hx : ∀ p ∈ l, p.1.Ok) (hl : l.length ≤ 65536) (h1 : MaySu s) (h2 : ∀ p ∈ l, MayS p.1) :
    APure cx 24 [.agg (scC s nd ne l ns)] (.str (scT s l)) := by
  have hln := ref_LinesA s hs h1 nd ne []
  have hm32 := hs.m32
  have htl := txt_len 200 _ (linesL_len s hs h1)
  have hlq := linesL_length s
  have hlb := linesL_len s hs h1
  have hms := h1.2
  have hgs := fun k => getD_sts l k .any
  obtain ⟨SL, hSL⟩ : ∃ SL, SL = l.map fun p => lineS p.1 := ⟨_, rfl⟩
  have hSl : SL.length = l.length := by rw [hSL]; simp
  have hsb : ∀ x ∈ SL, x.length ≤ 20000 := fun z hz => by
    rw [hSL] at hz
    obtain ⟨p, hp, rfl⟩ := List.mem_map.1 hz
    exact lineS_len _ (hx p hp)
  have hST : scT s l = txt (linesL s ++ SL) := by rw [hSL, txt_app]; rfl
  rw [hST]
  generalize linesL s = LS at *
  clear hs h1 hST
  obtain ⟨g, i, m, d, e⟩ := s
  unfold suC at hln
  unfold scC
  simp only at *
  simp only [List.nil_append, List.length_nil] at hln
  refine pure_fnK cxOk Tryz.func24 (fun _ => false) (fe24.q) (by kernel_rfl) (by dsimp only [Tryz.f24, go_sem, seval] <;> rfl) ?_
  dsimp only [Tryz.f24, frame0, List.zipIdx, List.map, Nat.reduceAdd]
  try simp only [List.getElem?_toArray, List.getElem?_cons_succ, List.getElem?_cons_zero, Option.bind_some]
  repeat' (first | (apply aL_boxI; (case hg => (simp (disch := first | omega | (simp only [go_sem]; omega)) only [go_sem, seval])); (case h => (simp (disch := first | omega | (simp only [go_sem]; omega)) only [go_sem, seval] <;> with_reducible rfl)); (case hf => (simp only [go_sem] <;> with_reducible rfl)); (case hs => (simp (disch := first | omega | (simp only [go_sem]; omega)) only [go_sem, seval]))) | refine aC_seq ?_ | refine aC_reg rfl ?_ | refine aC_block ?_ | refine aC_loop ?_ | refine thenQ_normal ?_ | refine aL_nil ?_ | (apply aL_step; (· exact True.intro); (iterate 2 (· simp (disch := first | omega | (simp only [go_sem]; omega)) only [go_sem, seval] <;> with_reducible rfl)); (· simp only [go_sem] <;> with_reducible rfl)) | (apply aL_aK (hln); (· rfl); (iterate 2 (· simp (disch := first | omega | (simp only [go_sem]; omega)) only [go_sem, seval] <;> with_reducible rfl)); (· simp only [go_sem] <;> with_reducible rfl)) | fail)
  · clear hln
    refine loop_rule (cxOk.wp _ _) (σ := Nat) (fun k => [(4, .int .i64 k), (3, .sl 1 false ((LS ++ SL.take k).map .str) (.grow 0)), (1, .cptr (.int .i64 g :: .bool i :: (bl m ++ [.sl 32 nd (dgs d) .any, .sl 1 ne (wl e) .any, .sl 11 ns (sts l) .any])))])
      (fun k => [.grow (LS.length + k) 1 9]) (fun k => l.length - k) (fun k => k ≤ l.length) 0 (GStep.refl _ _) ⟨Nat.zero_le _, Sub.of_all (by simp [Fr.get]), by simp⟩ ?_
    intro k hk
    by_cases hlt : k < l.length
    · have hgd := hgs k hlt
      have hok := hx _ (List.getElem_mem hlt)
      have hmy := h2 _ (List.getElem_mem hlt)
      have hlin := ref_Line l[k].1 hok (fun h => by
        rcases hmy with h' | ⟨_, h' | h' | h'⟩
        · exact h'.2.1
        · omega
        · omega
        · omega) l[k].2
      have h6 := hok.x6
      have htk : SL.take (k + 1) = SL.take k ++ [lineS l[k].1] := by
        rw [List.take_succ_eq_append_getElem (by omega)]
        simp [hSL]
      have hlk : (SL.take k).length = k := by rw [List.length_take]; omega
      generalize hX' : SL.take (k + 1) = X' at *
      generalize SL.take k = X at *
      generalize lineS l[k].1 = Y at *
      clear hx h2 hok hmy hgs
      generalize l[k] = p at *
      obtain ⟨⟨kk, op, xs, a, w, b⟩, nb⟩ := p
      simp only at h6 hgd hlin
      obtain ⟨x0, x1, x2, x3, x4, x5, rfl⟩ := six h6
      simp only [spC_six] at hgd hlin
      repeat' (first | refine aC_seq ?_ | refine aC_reg rfl ?_ | refine aC_block ?_ | refine aC_skip ?_ | refine thenQ_normal ?_ | refine blockQ_normal ?_ | refine aL_nil ?_ | (apply aL_step; (· exact True.intro); (iterate 2 (· simp (disch := first | omega | (simp only [go_sem]; omega)) only [go_sem, seval, hgd] <;> with_reducible rfl)); (· simp only [go_sem] <;> with_reducible rfl)) | (refine aC_condP (by simp (disch := first | omega | (simp only [go_sem]; omega)) only [go_sem, seval, hgd] <;> with_reducible rfl) ?_ ?_ <;> (intro h; first | (exfalso; omega) | skip)) | (apply aL_pK cxG (hlin); (iterate 2 (· simp (disch := first | omega | (simp only [go_sem]; omega)) only [go_sem, seval, hgd] <;> with_reducible rfl)); (· simp only [go_sem] <;> with_reducible rfl); (· simp)) | fail)
      all_goals try (first | exact True.intro | exact not_false | omega | (simp (disch := first | omega | (simp only [go_sem]; omega)) only [go_sem, seval] <;> omega))
      all_goals clear hlin
      all_goals try (exact ⟨k + 1, by omega, Sub.of_all (by simp [Fr.get, hX', htk]), by simp [hlk]; try omega, by omega⟩)
      all_goals try (simp (disch := first | omega | (simp only [go_sem]; omega)) only [go_sem, seval])
      all_goals try simp
      all_goals try omega
    · have hk2 : k = l.length := by omega
      subst hk2
      have hSt : SL.take l.length = SL := by rw [← hSl, List.take_length]
      have hAl : LS.length + l.length = (LS ++ SL).length := by rw [List.length_append]; omega
      have hbnd : ∀ k, (txt ((LS ++ SL).take k)).length ≤ 2000000000 := fun k => by
        have h1 := txt_len 20000 ((LS ++ SL).take k) (fun z hz => by
          rcases List.mem_append.1 (List.mem_of_mem_take hz) with h | h
          · have := hlb z h; omega
          · exact hsb z h)
        have h2 : ((LS ++ SL).take k).length ≤ 80000 := by rw [List.length_take]; omega
        omega
      clear hx h2 hgs hsb hlb htl
      rw [hSt, hAl]
      clear hSt
      generalize LS ++ SL = A at *
      have hAlen : A.length ≤ 80000 := by omega
      repeat' (first | refine aC_seq ?_ | refine aC_reg rfl ?_ | refine aC_block ?_ | refine aC_loop ?_ | refine aC_exit ?_ | refine thenQ_normal ?_ | refine thenQ_exit ?_ | refine blockQ_hit ?_ | refine aL_nil ?_ | (apply aL_step; (· exact True.intro); (iterate 2 (· simp (disch := first | omega | (simp only [go_sem]; omega)) only [go_sem, seval] <;> with_reducible rfl)); (· simp only [go_sem] <;> with_reducible rfl)) | (refine aC_condP (by simp (disch := first | omega | (simp only [go_sem]; omega)) only [go_sem, seval] <;> with_reducible rfl) ?_ ?_ <;> (intro h; first | (exfalso; omega) | skip)) | fail)
      · refine loop_rule (cxOk.wp _ _) (σ := Nat) (fun k => [(6, .int .i64 k), (5, .sl 1 (decide (k = 0)) (bl (txt (A.take k))) (.grow 1)), (3, .sl 1 false (A.map .str) (.grow 0))])
          (fun k => [.grow A.length 1 9, .grow (txt (A.take k)).length 1 5]) (fun k => A.length - k) (fun k => k ≤ A.length) 0 (GStep.nil 5 1 5 rfl) ⟨Nat.zero_le _, Sub.of_all (by simp [Fr.get, txt, bl]), by simp [txt]⟩ ?_
        intro k hk
        have hb1 := hbnd k
        have hb2 := hbnd (k + 1)
        by_cases hlt : k < A.length
        · have hgd : (A.map AVal.str).getD k .any = .str (A.getD k []) := by simp [List.getD, hlt]
          have htk := txt_take A k hlt
          clear hbnd
          generalize A.getD k [] = x at *
          generalize hX' : txt (A.take (k + 1)) = X' at *
          generalize txt (A.take k) = X at *
          have hxl : X.length + x.length + 1 ≤ 2000000000 := by rw [htk] at hb2; simp at hb2; omega
          have e10 : bl (X ++ x) ++ [.int .u8 10] = bl X' := by rw [htk]; simp [bl, bv]
          have e11 : (decide (k = 0) && x.isEmpty && false) = false := by simp
          repeat' (first | refine aC_seq ?_ | refine aC_reg rfl ?_ | refine aC_block ?_ | refine aC_skip ?_ | refine thenQ_normal ?_ | refine blockQ_normal ?_ | refine aL_nil ?_ | (apply aL_step; (· exact True.intro); (iterate 2 (· simp (disch := first | omega | (simp only [go_sem]; omega)) only [go_sem, seval, hgd] <;> with_reducible rfl)); (· simp only [go_sem] <;> with_reducible rfl)) | (refine aC_condP (by simp (disch := first | omega | (simp only [go_sem]; omega)) only [go_sem, seval, hgd] <;> with_reducible rfl) ?_ ?_ <;> (intro h; first | (exfalso; omega) | skip)) | fail)
          all_goals try (first | exact True.intro | exact not_false | omega | (simp (disch := first | omega | (simp only [go_sem]; omega)) only [go_sem, seval] <;> omega))
          all_goals try (exact ⟨k + 1, by omega, Sub.of_all (by simp [Fr.get, hX', ← e10]), by simp [hX', htk]; try omega, by omega⟩)
          all_goals try (simp (disch := first | omega | (simp only [go_sem]; omega)) only [go_sem, seval])
          all_goals try simp
          all_goals try omega
        · have hk2 : k = A.length := by omega
          subst hk2
          rw [List.take_length] at *
          clear hbnd
          repeat' (first | refine aC_seq ?_ | refine aC_reg rfl ?_ | refine aC_exit ?_ | refine aC_ret ?_ | refine thenQ_normal ?_ | refine thenQ_exit ?_ | refine blockQ_hit ?_ | refine aL_nil ?_ | (apply aL_step; (· exact True.intro); (iterate 2 (· simp (disch := first | omega | (simp only [go_sem]; omega)) only [go_sem, seval] <;> with_reducible rfl)); (· simp only [go_sem] <;> with_reducible rfl)) | (refine aC_condP (by simp (disch := first | omega | (simp only [go_sem]; omega)) only [go_sem, seval] <;> with_reducible rfl) ?_ ?_ <;> (intro h; first | (exfalso; omega) | skip)) | fail)
          all_goals try (first | exact True.intro | exact not_false | omega | (simp (disch := first | omega | (simp only [go_sem]; omega)) only [go_sem, seval] <;> omega))
          all_goals try (simp (disch := first | omega | (simp only [go_sem]; omega)) only [go_sem, seval])
          all_goals try simp
      all_goals first | trivial | omega
  all_goals first | trivial | omega
end
end Go.Am
end
section
namespace Go.Am
open Go Go.Proofs
set_option maxHeartbeats 8000000
set_option maxRecDepth 100000
section
attribute [local irreducible] aC aL thenQ blockQ scopeQ ALoop AWp
structure Sp.Wd (s : Sp) : Prop where
  x6 : s.xs.length = 6
  xw : ∀ x ∈ s.xs, x < 18446744073709551616
  aw : s.a < 18446744073709551616
  ww : s.w < 18446744073709551616
structure ScW (s : Su) (l : List (Sp × Bool)) : Prop where
  ok : s.Ok
  st : ∀ p ∈ l, p.1.Wd
  len : s.d.length ≤ 9223372036854775807 ∧ s.e.length ≤ 9223372036854775807 ∧ l.length ≤ 9223372036854775807
theorem ScW.okS {s : Su} {l : List (Sp × Bool)} (h : ScW s l) (hm : ¬ MuchS s l) : (∀ p ∈ l, p.1.Ok) ∧ (∀ p ∈ l, p.1.b.length ≤ 5000) ∧ s.d.length ≤ 100 ∧ s.e.length ≤ 100 ∧ l.length ≤ 200 := by
  have hb : ∀ p ∈ l, p.1.b.length ≤ 5000 := fun p hp => Decidable.byContradiction fun k => hm (.inr (.inr (.inr ⟨p, hp, by omega⟩)))
  refine ⟨fun p hp => ?_, hb, ?_, ?_, ?_⟩
  · have := h.st p hp
    exact ⟨this.x6, this.xw, this.aw, this.ww, by have := hb p hp; omega⟩
  · exact Decidable.byContradiction fun k => hm (.inl (by omega))
  · exact Decidable.byContradiction fun k => hm (.inr (.inl (by omega)))
  · exact Decidable.byContradiction fun k => hm (.inr (.inr (.inl (by omega))))
theorem scT_small (s : Su) (l : List (Sp × Bool)) (h : ScW s l) (hm : ¬ MuchS s l) (h1 : MaySu s) : (scT s l).length ≤ 4194304 := by
  obtain ⟨k1, k2, k3, k4, k5⟩ := h.okS hm
  have t1 := txt_len 200 _ (linesL_len s h.ok h1)
  rw [linesL_length] at t1
  have t2 := txt_len 20000 (l.map fun p => lineS p.1) (fun z hz => by
    obtain ⟨p, hp, rfl⟩ := List.mem_map.1 hz
    exact lineS_len _ (k1 p hp))
  rw [List.length_map] at t2
  unfold scT
  rw [List.length_append]
  omega
theorem law_texts (s s' : Su) (nd ne ns nd' ne' ns' : Bool) (l l' : List (Sp × Bool)) (h : ScW s l) (h' : ScW s' l') :
    APure cx 6 [.agg (scC s nd ne l ns), .agg (scC s' nd' ne' l' ns')] (.bool true) := by
  have hk := script_known
  have hM := ref_Much s h.ok.m32 nd ne ns l (fun p hp => (h.st p hp).x6) h.len
  have hM' := ref_Much s' h'.ok.m32 nd' ne' ns' l' (fun p hp => (h'.st p hp).x6) h'.len
  have m1 := h.ok.m32
  have m2 := h'.ok.m32
  by_cases hmm : MuchS s l ∨ MuchS s' l'
  case pos =>
    clear h h'
    by_cases c1 : MuchS s l
    case' pos => rw [decide_eq_true c1] at hM
    case' neg => rw [decide_eq_false c1] at hM; rw [decide_eq_true (hmm.resolve_left c1)] at hM'
    all_goals
    clear hmm c1
    obtain ⟨g, i, m, d, e⟩ := s
    obtain ⟨g', i', m', d', e'⟩ := s'
    unfold scC at *
    simp only at *
    refine pure_fnK cxOk Tryz.func6 (fun _ => false) (fe6.q) (by kernel_rfl) (by dsimp only [Tryz.f6, go_sem, seval] <;> rfl) ?_
    dsimp only [Tryz.f6, frame0, List.zipIdx, List.map, Nat.reduceAdd]
    try simp only [List.getElem?_toArray, List.getElem?_cons_succ, List.getElem?_cons_zero, Option.bind_some]
    repeat' (first | (apply aL_boxI; (case hg => (simp (disch := first | omega | (simp only [go_sem]; omega)) only [go_sem, seval, eq_self_iff_true, decide_true, decide_false, not_true_eq_false, not_false_eq_true, Bool.not_true, Bool.not_false])); (case h => (simp (disch := first | omega | (simp only [go_sem]; omega)) only [go_sem, seval, eq_self_iff_true, decide_true, decide_false, not_true_eq_false, not_false_eq_true, Bool.not_true, Bool.not_false] <;> with_reducible rfl)); (case hf => (simp only [go_sem] <;> with_reducible rfl)); (case hs => (simp (disch := first | omega | (simp only [go_sem]; omega)) only [go_sem, seval, eq_self_iff_true, decide_true, decide_false, not_true_eq_false, not_false_eq_true, Bool.not_true, Bool.not_false]))) | refine aC_seq ?_ | refine aC_reg rfl ?_ | refine aC_ret ?_ | refine thenQ_normal ?_ | refine thenQ_ret ?_ | refine aL_nil ?_ | (apply aL_step; (· exact True.intro); (iterate 2 (· simp (disch := first | omega | (simp only [go_sem]; omega)) only [go_sem, seval, eq_self_iff_true, decide_true, decide_false, not_true_eq_false, not_false_eq_true, Bool.not_true, Bool.not_false] <;> with_reducible rfl)); (· simp only [go_sem] <;> with_reducible rfl)) | (refine aL_skip ?_ (by simp only [go_sem] <;> with_reducible rfl) ?_; (· simp (disch := first | omega | (simp only [go_sem]; omega)) only [go_sem, seval, eq_self_iff_true, decide_true, decide_false, not_true_eq_false, not_false_eq_true, Bool.not_true, Bool.not_false])) | (refine aC_condT ?_ ?_; (· simp (disch := first | omega | (simp only [go_sem]; omega)) only [go_sem, seval, eq_self_iff_true, decide_true, decide_false, not_true_eq_false, not_false_eq_true, Bool.not_true, Bool.not_false])) | (apply aL_pK cxG (hM); (iterate 2 (· simp (disch := first | omega | (simp only [go_sem]; omega)) only [go_sem, seval, eq_self_iff_true, decide_true, decide_false, not_true_eq_false, not_false_eq_true, Bool.not_true, Bool.not_false] <;> with_reducible rfl)); (· simp only [go_sem] <;> with_reducible rfl); (· simp)) | (apply aL_pK cxG (hM'); (iterate 2 (· simp (disch := first | omega | (simp only [go_sem]; omega)) only [go_sem, seval, eq_self_iff_true, decide_true, decide_false, not_true_eq_false, not_false_eq_true, Bool.not_true, Bool.not_false] <;> with_reducible rfl)); (· simp only [go_sem] <;> with_reducible rfl); (· simp)) | (apply aL_pK cxG (hk); (iterate 2 (· simp (disch := first | omega | (simp only [go_sem]; omega)) only [go_sem, seval, eq_self_iff_true, decide_true, decide_false, not_true_eq_false, not_false_eq_true, Bool.not_true, Bool.not_false] <;> with_reducible rfl)); (· simp only [go_sem] <;> with_reducible rfl); (· simp)) | fail)
    all_goals try (first | exact True.intro | exact not_false | omega | (simp (disch := first | omega | (simp only [go_sem]; omega)) only [go_sem, seval] <;> omega))
    all_goals clear hk hM hM'
    all_goals try (simp (disch := first | omega | (simp only [go_sem]; omega)) only [go_sem, seval])
    all_goals try simp
  case neg =>
  have c1 : ¬ MuchS s l := fun k => hmm (.inl k)
  have c2 : ¬ MuchS s' l' := fun k => hmm (.inr k)
  rw [decide_eq_false c1] at hM
  rw [decide_eq_false c2] at hM'
  obtain ⟨ok1, b1, d1, e1, l1⟩ := h.okS c1
  obtain ⟨ok2, b2, d2, e2, l2⟩ := h'.okS c2
  have x1 : ∀ p ∈ l, p.1.xs.length = 6 := fun p hp => (ok1 p hp).x6
  have x2 : ∀ p ∈ l', p.1.xs.length = 6 := fun p hp => (ok2 p hp).x6
  have S1 := script_Same s s' h.ok h'.ok nd ne ns nd' ne' ns' l l' x1 x2 (by omega) (by omega)
  have S2 := ref_Same s s' h.ok h'.ok nd ne ns nd' ne' ns' l l' (fun p hp => ⟨x1 p hp, by have := b1 p hp; omega⟩) (fun p hp => ⟨x2 p hp, by have := b2 p hp; omega⟩) (by omega) (by omega)
  have S3 := script_Same s s h.ok h.ok nd ne ns nd ne ns l l x1 x1 (by omega) (by omega)
  rw [decide_eq_true (show s = s ∧ stp l = stp l from ⟨rfl, rfl⟩)] at S3
  generalize decide (s = s' ∧ stp l = stp l') = sm at *
  have hmay := ref_MaySetup s m1 nd ne
  have q0 := law_num25 0
  have q2 := law_num25 2
  have hgs := fun k => getD_sts l k .any
  have hms := fun (k : Nat) (hk : k < l.length) => ref_MayStep l[k].1 (x1 _ (List.getElem_mem hk)) l[k].2
  have hT : ∃ r T, APure cx 16 [.agg (scC s nd ne l ns)] (.tup [.str T, .int .i64 r]) ∧ ((¬ (MaySu s ∧ ∀ p ∈ l, MayS p.1) ∧ T = [] ∧ r = 2) ∨ ((MaySu s ∧ ∀ p ∈ l, MayS p.1) ∧ r = 0 ∧ APure cx 24 [.agg (scC s nd ne l ns)] (.str T))) := by
    by_cases c : MaySu s ∧ ∀ p ∈ l, MayS p.1
    · have t1 := script_Text_ok s h.ok nd ne ns l ok1 (by omega) c.1 c.2
      rw [if_neg (by have := scT_small s l h c1 c.1; omega)] at t1
      exact ⟨0, _, t1, .inr ⟨c, rfl, ref_Text25 s h.ok nd ne ns l ok1 (by omega) c.1 c.2⟩⟩
    · exact ⟨2, [], script_Text_no s h.ok nd ne ns l x1 (by omega) c, .inl ⟨c, rfl, rfl⟩⟩
  obtain ⟨r, T, hT, hr⟩ := hT
  generalize hMM : (fun k => decide (MaySu s ∧ ∀ p ∈ l.take k, MayS p.1)) = MM
  have M0 : MM 0 = decide (MaySu s) := by rw [← hMM]; simp
  have Ms : ∀ k (hk : k < l.length), MM (k + 1) = (MM k && decide (MayS l[k].1)) := fun k hk => by
    rw [← hMM]
    simp only [List.take_succ_eq_append_getElem hk, List.mem_append, List.mem_singleton, or_imp, forall_and, forall_eq]
    rw [Bool.eq_iff_iff]
    simp [and_assoc]
  have Ml : MM l.length = decide (MaySu s ∧ ∀ p ∈ l, MayS p.1) := by rw [← hMM]; dsimp only; rw [List.take_length]
  have hr2 : (MM l.length = false ∧ T = [] ∧ r = 2) ∨ (MM l.length = true ∧ r = 0 ∧ APure cx 24 [.agg (scC s nd ne l ns)] (.str T)) := by
    rw [Ml]
    rcases hr with ⟨a, b, c⟩ | ⟨a, b, c⟩
    · exact .inl ⟨decide_eq_false a, b, c⟩
    · exact .inr ⟨decide_eq_true a, b, c⟩
  rw [← M0] at hmay
  have hx6 := x1
  clear hr hMM M0 Ml h h' hmm c1 c2 ok1 ok2 b1 b2 x1 x2
  obtain ⟨g, i, m, d, e⟩ := s
  obtain ⟨g', i', m', d', e'⟩ := s'
  unfold scC at *
  unfold suC at hmay
  simp only at *
  refine pure_fnK cxOk Tryz.func6 (fun _ => false) (fe6.q) (by kernel_rfl) (by dsimp only [Tryz.f6, go_sem, seval] <;> rfl) ?_
  dsimp only [Tryz.f6, frame0, List.zipIdx, List.map, Nat.reduceAdd]
  try simp only [List.getElem?_toArray, List.getElem?_cons_succ, List.getElem?_cons_zero, Option.bind_some]
  repeat' (first | (apply aL_boxI; (case hg => (simp (disch := first | omega | (simp only [go_sem]; omega)) only [go_sem, seval, eq_self_iff_true, decide_true, decide_false, not_true_eq_false, not_false_eq_true, Bool.not_true, Bool.not_false])); (case h => (simp (disch := first | omega | (simp only [go_sem]; omega)) only [go_sem, seval, eq_self_iff_true, decide_true, decide_false, not_true_eq_false, not_false_eq_true, Bool.not_true, Bool.not_false] <;> with_reducible rfl)); (case hf => (simp only [go_sem] <;> with_reducible rfl)); (case hs => (simp (disch := first | omega | (simp only [go_sem]; omega)) only [go_sem, seval, eq_self_iff_true, decide_true, decide_false, not_true_eq_false, not_false_eq_true, Bool.not_true, Bool.not_false]))) | refine aC_seq ?_ | refine aC_reg rfl ?_ | refine aC_skip ?_ | refine thenQ_normal ?_ | refine aL_nil ?_ | (apply aL_step; (· exact True.intro); (iterate 2 (· simp (disch := first | omega | (simp only [go_sem]; omega)) only [go_sem, seval, eq_self_iff_true, decide_true, decide_false, not_true_eq_false, not_false_eq_true, Bool.not_true, Bool.not_false] <;> with_reducible rfl)); (· simp only [go_sem] <;> with_reducible rfl)) | (refine aC_condF ?_ ?_; (· simp (disch := first | omega | (simp only [go_sem]; omega)) only [go_sem, seval, eq_self_iff_true, decide_true, decide_false, not_true_eq_false, not_false_eq_true, Bool.not_true, Bool.not_false])) | (apply aL_pK cxG (hM); (iterate 2 (· simp (disch := first | omega | (simp only [go_sem]; omega)) only [go_sem, seval, eq_self_iff_true, decide_true, decide_false, not_true_eq_false, not_false_eq_true, Bool.not_true, Bool.not_false] <;> with_reducible rfl)); (· simp only [go_sem] <;> with_reducible rfl); (· simp)) | (apply aL_pK cxG (hM'); (iterate 2 (· simp (disch := first | omega | (simp only [go_sem]; omega)) only [go_sem, seval, eq_self_iff_true, decide_true, decide_false, not_true_eq_false, not_false_eq_true, Bool.not_true, Bool.not_false] <;> with_reducible rfl)); (· simp only [go_sem] <;> with_reducible rfl); (· simp)) | (apply aL_pK cxG (hT); (iterate 2 (· simp (disch := first | omega | (simp only [go_sem]; omega)) only [go_sem, seval, eq_self_iff_true, decide_true, decide_false, not_true_eq_false, not_false_eq_true, Bool.not_true, Bool.not_false] <;> with_reducible rfl)); (· simp only [go_sem] <;> with_reducible rfl); (· simp)) | fail)
  refine aC_regB (U := [(some 24, some 23), (some 25, some 23)]) rfl [] ?_
  repeat' (first | refine aLB_nil ?_ | (apply aLB_step; (· exact True.intro); (· exact (by intro h; cases h)); (· rfl); (· simp (disch := first | omega | (simp only [go_sem]; omega)) only [go_sem, seval, beq_self_eq_true, bne_self_eq_false, decide_true, decide_false, not_true_eq_false, not_false_eq_true, Bool.not_true, Bool.not_false]); (· simp (disch := first | omega | (simp only [go_sem]; omega)) only [go_sem, seval, beq_self_eq_true, bne_self_eq_false, decide_true, decide_false, not_true_eq_false, not_false_eq_true, Bool.not_true, Bool.not_false] <;> with_reducible rfl); (· simp only [go_sem] <;> with_reducible rfl); (· (intro b hb; first | (cases hb; done) | (simp (disch := first | omega | (simp only [go_sem]; omega)) only [loadBox, go_sem, seval] at hb; (try injection hb with hb); subst hb; simp)))) | (apply aLB_pure cxG (S1); (case hg => (simp (disch := first | omega | (simp only [go_sem]; omega)) only [go_sem, seval, beq_self_eq_true, bne_self_eq_false, decide_true, decide_false, not_true_eq_false, not_false_eq_true, Bool.not_true, Bool.not_false])); (case hx => (simp (disch := first | omega | (simp only [go_sem]; omega)) only [go_sem, seval, beq_self_eq_true, bne_self_eq_false, decide_true, decide_false, not_true_eq_false, not_false_eq_true, Bool.not_true, Bool.not_false] <;> with_reducible rfl)); (case ha => (simp (disch := first | omega | (simp only [go_sem]; omega)) only [go_sem, seval, beq_self_eq_true, bne_self_eq_false, decide_true, decide_false, not_true_eq_false, not_false_eq_true, Bool.not_true, Bool.not_false] <;> with_reducible rfl)); (case he => (simp only [go_sem] <;> with_reducible rfl)); (case hcl => (simp)); (case hf => (simp only [go_sem] <;> with_reducible rfl))) | (apply aLB_pure cxG (S2); (case hg => (simp (disch := first | omega | (simp only [go_sem]; omega)) only [go_sem, seval, beq_self_eq_true, bne_self_eq_false, decide_true, decide_false, not_true_eq_false, not_false_eq_true, Bool.not_true, Bool.not_false])); (case hx => (simp (disch := first | omega | (simp only [go_sem]; omega)) only [go_sem, seval, beq_self_eq_true, bne_self_eq_false, decide_true, decide_false, not_true_eq_false, not_false_eq_true, Bool.not_true, Bool.not_false] <;> with_reducible rfl)); (case ha => (simp (disch := first | omega | (simp only [go_sem]; omega)) only [go_sem, seval, beq_self_eq_true, bne_self_eq_false, decide_true, decide_false, not_true_eq_false, not_false_eq_true, Bool.not_true, Bool.not_false] <;> with_reducible rfl)); (case he => (simp only [go_sem] <;> with_reducible rfl)); (case hcl => (simp)); (case hf => (simp only [go_sem] <;> with_reducible rfl))) | (apply aLB_pure cxG (S3); (case hg => (simp (disch := first | omega | (simp only [go_sem]; omega)) only [go_sem, seval, beq_self_eq_true, bne_self_eq_false, decide_true, decide_false, not_true_eq_false, not_false_eq_true, Bool.not_true, Bool.not_false])); (case hx => (simp (disch := first | omega | (simp only [go_sem]; omega)) only [go_sem, seval, beq_self_eq_true, bne_self_eq_false, decide_true, decide_false, not_true_eq_false, not_false_eq_true, Bool.not_true, Bool.not_false] <;> with_reducible rfl)); (case ha => (simp (disch := first | omega | (simp only [go_sem]; omega)) only [go_sem, seval, beq_self_eq_true, bne_self_eq_false, decide_true, decide_false, not_true_eq_false, not_false_eq_true, Bool.not_true, Bool.not_false] <;> with_reducible rfl)); (case he => (simp only [go_sem] <;> with_reducible rfl)); (case hcl => (simp)); (case hf => (simp only [go_sem] <;> with_reducible rfl))) | fail)
  repeat' (first | refine aC_seq ?_ | refine aC_reg rfl ?_ | refine aC_block ?_ | refine aC_skip ?_ | refine aC_loop ?_ | refine thenQ_normal ?_ | refine aL_nil ?_ | (apply aL_step; (· exact True.intro); (iterate 2 (· simp (disch := first | omega | (simp only [go_sem]; omega)) only [go_sem, seval, beq_self_eq_true, bne_self_eq_false, eq_self_iff_true, decide_true, decide_false, not_true_eq_false, not_false_eq_true, Bool.not_true, Bool.not_false] <;> with_reducible rfl)); (· simp only [go_sem] <;> with_reducible rfl)) | (refine aC_condF ?_ ?_; (· simp (disch := first | omega | (simp only [go_sem]; omega)) only [go_sem, seval, beq_self_eq_true, bne_self_eq_false, eq_self_iff_true, decide_true, decide_false, not_true_eq_false, not_false_eq_true, Bool.not_true, Bool.not_false])) | (apply aL_pK cxG (hmay); (iterate 2 (· simp (disch := first | omega | (simp only [go_sem]; omega)) only [go_sem, seval, beq_self_eq_true, bne_self_eq_false, eq_self_iff_true, decide_true, decide_false, not_true_eq_false, not_false_eq_true, Bool.not_true, Bool.not_false] <;> with_reducible rfl)); (· simp only [go_sem] <;> with_reducible rfl); (· simp)) | fail)
  · clear hM hM' hT S1 S2 S3 hmay
    refine loop_rule (cxOk.wp _ _) (σ := Nat) (fun k => [(8, .int .i64 k), (7, .bool (MM k)), (5, .str T), (6, .int .i64 r), (2, .cptr (.int .i64 g :: .bool i :: (bl m ++ [.sl 32 nd (dgs d) .any, .sl 1 ne (wl e) .any, .sl 11 ns (sts l) .any])))])
      (fun _ => []) (fun k => l.length - k) (fun k => k ≤ l.length) 0 (GStep.refl _ _) ⟨Nat.zero_le _, Sub.of_all (by simp [Fr.get]), rfl⟩ ?_
    intro k hkl
    by_cases hlt : k < l.length
    · have hgd := hgs k hlt
      have hm1 := hms k hlt
      have h6 := hx6 _ (List.getElem_mem hlt)
      have hM1 := Ms k hlt
      clear hgs hms Ms hk q0 q2 hr2 hx6
      generalize decide (MayS l[k].1) = mk at *
      generalize l[k] = p at *
      obtain ⟨⟨kk, op, xs, a, w, b⟩, nb⟩ := p
      simp only at h6 hgd hm1
      obtain ⟨x0, x1, x2, x3, x4, x5, rfl⟩ := six h6
      simp only [spC_six] at hgd hm1
      generalize hM2 : MM (k + 1) = M2 at *
      generalize MM k = M1 at *
      cases M1
      all_goals
      simp only [Bool.false_and, Bool.true_and] at hM1
      subst hM1
      repeat' (first | refine aC_seq ?_ | refine aC_reg rfl ?_ | refine aC_block ?_ | refine aC_skip ?_ | refine thenQ_normal ?_ | refine blockQ_normal ?_ | refine aL_nil ?_ | (apply aL_step; (· exact True.intro); (iterate 2 (· simp (disch := first | omega | (simp only [go_sem]; omega)) only [go_sem, seval, hgd, eq_self_iff_true, decide_true, decide_false, not_true_eq_false, not_false_eq_true, Bool.not_true, Bool.not_false] <;> with_reducible rfl)); (· simp only [go_sem] <;> with_reducible rfl)) | (refine aL_skip ?_ (by simp only [go_sem] <;> with_reducible rfl) ?_; (· simp (disch := first | omega | (simp only [go_sem]; omega)) only [go_sem, seval, hgd, eq_self_iff_true, decide_true, decide_false, not_true_eq_false, not_false_eq_true, Bool.not_true, Bool.not_false])) | (refine aC_condP (by simp (disch := first | omega | (simp only [go_sem]; omega)) only [go_sem, seval, hgd, eq_self_iff_true, decide_true, decide_false, not_true_eq_false, not_false_eq_true, Bool.not_true, Bool.not_false] <;> with_reducible rfl) ?_ ?_ <;> (intro h; first | (exfalso; omega) | skip)) | (apply aL_pK cxG (hm1); (iterate 2 (· simp (disch := first | omega | (simp only [go_sem]; omega)) only [go_sem, seval, hgd, eq_self_iff_true, decide_true, decide_false, not_true_eq_false, not_false_eq_true, Bool.not_true, Bool.not_false] <;> with_reducible rfl)); (· simp only [go_sem] <;> with_reducible rfl); (· simp)) | fail)
      all_goals try (first | exact True.intro | exact not_false | omega | (simp (disch := first | omega | (simp only [go_sem]; omega)) only [go_sem, seval] <;> omega))
      all_goals clear hm1
      all_goals try (exact ⟨k + 1, by omega, Sub.of_all (by simp [Fr.get, hM2]), rfl, by omega⟩)
      all_goals try (simp (disch := first | omega | (simp only [go_sem]; omega)) only [go_sem, seval])
      all_goals try simp
      all_goals try omega
    · have hk2 : k = l.length := by omega
      subst hk2
      clear hgs hms Ms hx6
      generalize MM l.length = M1 at *
      rcases hr2 with ⟨rfl, rfl, rfl⟩ | ⟨rfl, rfl, hr2⟩
      case' inl => have hr2 := hk
      all_goals
      repeat' (first | refine aC_seq ?_ | refine aC_reg rfl ?_ | refine aC_skip ?_ | refine aC_exit ?_ | refine aC_ret ?_ | refine thenQ_normal ?_ | refine thenQ_ret ?_ | refine thenQ_exit ?_ | refine blockQ_hit ?_ | refine aL_nil ?_ | (apply aL_step; (· exact True.intro); (iterate 2 (· simp (disch := first | omega | (simp only [go_sem]; omega)) only [go_sem, seval, eq_self_iff_true, decide_true, decide_false, not_true_eq_false, not_false_eq_true, Bool.not_true, Bool.not_false, beq_self_eq_true] <;> with_reducible rfl)); (· simp only [go_sem] <;> with_reducible rfl)) | (refine aC_condT ?_ ?_; (· simp (disch := first | omega | (simp only [go_sem]; omega)) only [go_sem, seval, eq_self_iff_true, decide_true, decide_false, not_true_eq_false, not_false_eq_true, Bool.not_true, Bool.not_false, beq_self_eq_true])) | (refine aC_condF ?_ ?_; (· simp (disch := first | omega | (simp only [go_sem]; omega)) only [go_sem, seval, eq_self_iff_true, decide_true, decide_false, not_true_eq_false, not_false_eq_true, Bool.not_true, Bool.not_false, beq_self_eq_true])) | (refine aC_condP (by simp (disch := first | omega | (simp only [go_sem]; omega)) only [go_sem, seval, eq_self_iff_true, decide_true, decide_false, not_true_eq_false, not_false_eq_true, Bool.not_true, Bool.not_false, beq_self_eq_true] <;> with_reducible rfl) ?_ ?_ <;> (intro h; first | (exfalso; omega) | skip)) | (apply aL_pK cxG (hr2); (iterate 2 (· simp (disch := first | omega | (simp only [go_sem]; omega)) only [go_sem, seval, eq_self_iff_true, decide_true, decide_false, not_true_eq_false, not_false_eq_true, Bool.not_true, Bool.not_false, beq_self_eq_true] <;> with_reducible rfl)); (· simp only [go_sem] <;> with_reducible rfl); (· simp)) | (apply aL_pK cxG (hk); (iterate 2 (· simp (disch := first | omega | (simp only [go_sem]; omega)) only [go_sem, seval, eq_self_iff_true, decide_true, decide_false, not_true_eq_false, not_false_eq_true, Bool.not_true, Bool.not_false, beq_self_eq_true] <;> with_reducible rfl)); (· simp only [go_sem] <;> with_reducible rfl); (· simp)) | (apply aL_pK cxG (q0); (iterate 2 (· simp (disch := first | omega | (simp only [go_sem]; omega)) only [go_sem, seval, eq_self_iff_true, decide_true, decide_false, not_true_eq_false, not_false_eq_true, Bool.not_true, Bool.not_false, beq_self_eq_true] <;> with_reducible rfl)); (· simp only [go_sem] <;> with_reducible rfl); (· simp)) | (apply aL_pK cxG (q2); (iterate 2 (· simp (disch := first | omega | (simp only [go_sem]; omega)) only [go_sem, seval, eq_self_iff_true, decide_true, decide_false, not_true_eq_false, not_false_eq_true, Bool.not_true, Bool.not_false, beq_self_eq_true] <;> with_reducible rfl)); (· simp only [go_sem] <;> with_reducible rfl); (· simp)) | fail)
      all_goals try (first | exact True.intro | exact not_false | omega | (simp (disch := first | omega | (simp only [go_sem]; omega)) only [go_sem, seval] <;> omega))
      all_goals clear hr2 hk q0 q2
      all_goals try (simp (disch := first | omega | (simp only [go_sem]; omega)) only [go_sem, seval])
      all_goals try simp
  all_goals first | trivial | omega
end
end Go.Am
end
