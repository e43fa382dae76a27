/- Walk rules: a range over a function, its rounds, the call of the loop's body. -/
import Derived.Test.YtbaminbodfidmaaDoorAmWalkD
import Derived.Test.YtbaminbodfidmaaDoorAmYield
set_option linter.unusedVariables false
set_option linter.unusedSimpArgs false
namespace Go.Am
open Go
section
variable {C : Cx} {N : Nat}

/-- The call of a loop's own body. -/
theorem aL_yield {p : FuncId → Bool} {q : Nat → Option UL} {d : Option Nat} {gd : Option (Option Nat × Bool)} {x : Operand} {xs : Array Operand} {ts : Array TypeId} {rest : List LO} {Q : Fr → St → Prop} {fr : Fr} {S S' : St} {i : Nat} {args cargs : List AVal} {r : AVal} {fr' : Fr}
    (hc : AYield C i cargs S r S') (hg : wantL gd fr = some true) (hx : aEval (C.wp p q) fr.get x = .yld i) (ha : xs.toList.map (aEval (C.wp p q) fr.get) = args) (he : cargs = args) (hf : fr.put d r = fr') (k : aL (C.wp p q) none rest Q fr' S') :
    aL (C.wp p q) none (⟨d, .call ⟨.value x, xs, ts⟩, gd⟩ :: rest) Q fr S := by
  subst hf ha he
  simp only [aL, hg, if_true, aOpK, hx]
  exact .inr (.inr ⟨r, S', hc, True.intro, k⟩)

/-- Likewise, the function with what it has captured. -/
theorem aC_rangeFnB {p : FuncId → Bool} {q : Nat → Option UL} {f : Operand} {ps : Array Nat} {asg body : Code} {Q : Post} {fr : Fr} {S : St} {g : FuncId} {as bs args : List AVal} {tag : Nat} {r : AVal} {S2 : St} {fr' : Fr} {N' : Nat} {ps' : List Nat} {asg' body' : Code} {st : LoopState} {pend : Option Code} {tag' : Nat}
    (hf : aEval (C.wp p q) fr.get f = .fn (.func g) as bs) (ha : as ++ [.yld S.length] ++ bs = args) (hc : ACall C g args (S ++ [.loop fr N ps.toList asg body .ready none tag]) r S2)
    (h2 : S2[S.length]? = some (.loop fr' N' ps' asg' body' st pend tag')) (hst : st ≠ .busy) (hq : pendQ Q pend fr (S2.set S.length (.loop fr' N' ps' asg' body' .exhausted pend tag'))) : aC (C.wp p q) N (.rangeFn f ps asg body) Q fr S := by
  unfold aC
  simp only [hf]
  exact ⟨tag, r, S2, fr', N', ps', asg', body', st, pend, tag', by rw [ha]; exact ⟨hc.callable, hc.ok⟩, h2, hst, hq⟩

/-- One round, its two parts by hand: the first sets temporaries alone. -/
theorem ayield_hand (hC : C.Ok) {fr : Fr} {ps : List Nat} {asg body : Code} {pend : Option Code} {tag i : Nat} {args : List AVal} {S S' : St} {r : AVal} {p : FuncId → Bool} {q : Nat → Option UL} {la lb : LC}
    (hS : S[i]? = some (.loop fr N ps asg body .ready pend tag)) (hl : ps.length = args.length) (hps : (ps.all fun k => Nat.blt k N) = true) (hna : noRF asg = true) (hnb : noRF body = true)
    (hca : codeOk (C.wp p q) N asg = true) (hcb : codeOk (C.wp p q) N body = true) (hla : lite asg = la) (hlb : lite body = lb)
    (h : aC (C.wp p q) N la (fun e fr1 T1 => e = .normal ∧ T1 = S ∧
      aC (C.wp p q) N lb (fun e _ T2 => T2[i]? = some (.loop fr N ps asg body .busy pend tag) ∧ roundEnd fr N ps asg body tag i T2 e = some (r, S')) fr1 (S.set i (.loop fr N ps asg body .busy pend tag))) (putAll fr ps args) S) : AYield C i args S r S' := by
  have hC' : (C.wp p q).Ok := hC.wp p q
  refine ayield_ok hS hl (fun k hk => blt_iff.1 (List.all_eq_true.1 hps k hk)) hna hnb (p := p) (q := q) ((aC_sound hC' asg _ _ _ hca (by rw [hla]; exact h)).mono ?_)
  rintro e fr1 T1 ⟨rfl, rfl, h1⟩
  refine ⟨rfl, _, _, _, _, _, _, _, hS, (aC_sound hC' body _ _ _ hcb (by rw [hlb]; exact h1)).mono ?_⟩
  rintro e fr2 T2 ⟨h2, h3⟩
  exact ⟨_, _, _, _, _, _, _, _, h2, h3⟩
end
end Go.Am
