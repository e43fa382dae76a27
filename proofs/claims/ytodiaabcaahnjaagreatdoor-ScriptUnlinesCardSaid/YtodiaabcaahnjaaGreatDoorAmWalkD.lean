/- The abstract layer: the walk's rule for a range over a map whose rounds do not lean on each other. -/
import Derived.Test.YtodiaabcaahnjaaGreatDoorAmFreshZ
import Derived.Test.YtodiaabcaahnjaaGreatDoorAmWalkC
set_option linter.unusedVariables false
set_option linter.unusedSimpArgs false
namespace Go.Am
open Go
noncomputable section
variable {C : Cx} {N : Nat}
theorem any_rule {aid out nx : Nat} {d pd : Option Nat} {it more it2 : Operand} {rops aops : List LO} {code : LC} {k mi since last clock : Nat} {z : ABox} {ps : List (AVal × AVal)} {fr fr0 : Fr} {S Sf : St} {Q : Post} (hC : C.Ok) (hG : GClosed C)
    (cont : AVal × AVal → Bool) (Res : Option (XE × Fr × St)) (hdn : ∀ k, d = some k → k < N) (hpd : ∀ k, pd = some k → k < N) (hsub : Sub fr fr0) (hit : aEval C fr0.get it = .ptr k 0)
    (hk : S[k]? = some (.iter (some mi) since [] last)) (hm : S[mi]? = some z) (hz : mapZ ps clock z) (hsc : clock ≤ since) (hSf : (S.set k (.frz none)).set mi (.frz (some ps)) = Sf)
    (hbel : belS S.length Sf = true) (hbp : belP S.length ps = true) (hbf : belF S.length fr0 = true)
    (hD : aL C none rops (fun frD SD => SD = Sf ∧ aEval C frD.get more = .bool false ∧ (Res = none → Q (.exit out) frD (Sf.set mi z))) (fr0.put d (.tup [.bool false])) Sf)
    (hres : Res = none ∨ ∃ e ∈ ps, cont e = false)
    (hround : ∀ e ∈ ps, aL C none rops (fun fr1 S1 => S1 = Sf ∧ aEval C fr1.get more = .bool true ∧ aEval C fr1.get it2 = .ptr k 0 ∧
      aL C none aops (fun fr2 S2 => ∃ (x : XE) (fr3 : Fr) (S3 : St), aC C N code (fun e2 f2 T2 => e2 = x.ex ∧ Sub f2 fr3 ∧ T2 = S3) fr2 S2 ∧
        ((cont e = true ∧ (x = .nrm ∨ x = .ext nx) ∧ S3.take S.length = Sf ∧ Sub fr3 fr0) ∨ (cont e = false ∧ x ≠ .nrm ∧ x ≠ .ext nx ∧ Res = some (x, fr3, S3)))) (fr1.put pd (.tup [e.1, e.2])) S1)
      (fr0.put d (.tup [.bool true, e.1, e.2])) Sf)
    (hfin : ∀ x f T, Res = some (x, f, T) → Q x.ex f (T.set mi z)) :
    ALoop C N (.seq (.nxt d it rops) (.seq (.cond more .skip (.exit out)) (.block nx (.seq (.reg aid (⟨pd, .entry it2, none⟩ :: aops)) code)))) Q fr S := by
  intro c hl hok F n hF hro E a hE hS hr
  obtain ⟨c1, c2, rfl, l1, l2⟩ := lite_seq hl
  obtain ⟨rid, ros, rrest, rfl, n1, rfl⟩ := lite_nxt l1
  obtain ⟨c3, c4, rfl, l3, l4⟩ := lite_seq l2
  obtain ⟨sk, c5, rfl, l5, l6⟩ := lite_cond l3
  obtain rfl := lite_exit l6
  obtain ⟨c7, rfl, l7⟩ := lite_block l4
  obtain ⟨c8, c9, rfl, l8, l9⟩ := lite_seq l7
  obtain ⟨aos, draw, rfl, la⟩ := lite_reg l8
  have hsk := lite_skip l5
  cases haos : aos.toList with
  | nil => rw [haos] at la; cases la
  | cons p arest =>
    rw [haos] at la
    simp only [List.map_cons, List.cons.injEq] at la
    obtain ⟨lp, rfl⟩ := la
    have hp : p.op = .entry it2 := (congrArg LO.op lp).symm
    have hpd' : p.dst = pd := (congrArg LO.d lp).symm
    have hpg : p.guard = none := by
      have := congrArg LO.gd lp
      simp only [liteO] at this
      cases hg : p.guard with
      | none => rfl
      | some g => rw [hg] at this; cases this
    simp only [codeOk, Bool.and_eq_true] at hok
    obtain ⟨⟨⟨ok1, _⟩, _⟩, ⟨_, ⟨⟨ok2, _⟩, ok3⟩, ok4⟩⟩ := hok
    rw [List.all_eq_true] at ok1 ok2
    have hdraw : draw = false := by
      cases draw with
      | false => rfl
      | true =>
        simp only [Bool.not_true, Bool.false_or, Bool.not_eq_true', haos, entF, hp] at ok3
        cases ok3
    subst hdraw
    obtain ⟨_, o0, ro1, _⟩ := nextOf_some n1
    have hrok : ∀ o ∈ rrest, dstB N o = true := fun o ho => ok1 o (by rw [ro1]; exact List.mem_cons_of_mem _ ho)
    have haok : ∀ o ∈ arest, dstB N o = true := fun o ho => ok2 o (by rw [haos]; exact List.mem_cons_of_mem _ ho)
    obtain ⟨frD, SD, rD, eD, mD, fD⟩ := aL_run (N := N) (ops := ros) rrest _ _ hrok hD
    subst eD
    rw [Fr.get_put] at rD
    have hro' : F.round = none ∨ noRF c9 = true := by
      rcases hro with h | h
      · exact .inl h
      · simp only [noRF, Bool.and_eq_true] at h
        exact .inr h.2.2.2
    have H : AnyOk C N out nx ros aos d it it2 more rrest arest p c9 k mi since last clock z ps fr0 frD S SD cont Res := by
      refine ⟨n1, hdn, haos, hp, hpg, by rw [hpd']; exact hpd, hit, hk, hm, hz, hsc, hSf.symm, hbel, hbp, belF_get hbf, rD, mD, hres, fun e he => ?_⟩
      obtain ⟨fr1, S1, r1, e1, b1, i1, h1⟩ := aL_run (N := N) (ops := ros) rrest _ _ hrok (hround e he)
      subst e1
      rw [Fr.get_put] at r1
      obtain ⟨fr2, S2, r2, x, fr3, S3, w3, h3⟩ := aL_run (N := N) (ops := aos) arest _ _ haok h1
      rw [Fr.get_put, ← hpd'] at r2
      have hw3 : AWp C N c9 (fun e2 f2 T2 => e2 = x.ex ∧ f2 = fr3 ∧ T2 = S3) fr2 S2 := by
        intro F n hF hro E a hE hS hr
        refine wpIn_mono (aC_sound hC c9 _ fr2 S2 ok4 (by rw [l9]; exact w3) F n hF hro E a hE hS hr) fun e a' w' h => ?_
        obtain ⟨E', fr', k1, k2, k3, k4, k5, k6, k7⟩ := h
        exact ⟨E', fr3, k1, k2, k3, k4.sub k6, k5, rfl, k7⟩
      exact ⟨fr1, fr2, S2, x, fr3, S3, r1, b1, i1, r2, hw3, h3⟩
    refine wpIn_loop_rounds _ (rounds_mono ?_ _ _ _ (any_loop hC hG H hsk F n hF hro' E a hE hS (hr.sub hsub)))
    rintro e2 a2 w2 ⟨E2, f2, y1, y2, y3, y4, y5⟩
    refine ⟨E2, f2, y1, y2, y3, y4, ?_⟩
    unfold anyQ at y5
    cases hR : Res with
    | none =>
      rw [hR] at y5
      obtain ⟨rfl, rfl, y7⟩ := y5
      rw [y7]
      exact fD hR
    | some t =>
      obtain ⟨x, f, T⟩ := t
      rw [hR] at y5
      obtain ⟨rfl, rfl, y7⟩ := y5
      rw [y7]
      exact hfin _ _ _ hR
end
end Go.Am
