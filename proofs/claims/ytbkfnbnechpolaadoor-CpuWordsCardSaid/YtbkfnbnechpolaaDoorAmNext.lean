/- The abstract layer: the next round of a range over a map. -/
import Derived.Test.YtbkfnbnechpolaaDoorAmMarks
import Derived.Maps.RangeRun
set_option linter.unusedVariables false
set_option linter.unusedSimpArgs false
namespace Go.Am
open Go

/-- The next round of a range over a map: whichever entry is drawn. -/
def aNext (it : AVal) (S : St) (K : AVal → St → Prop) : Prop :=
  match it with
  | .ptr k 0 => match S[k]? with
    | some (.iter none _ _ _) => K (.tup [.bool false]) S
    | some (.iter (some mi) since seen last) => match S[mi]? with
      | some (.mp es clock) => (seen = [] ∨ es = [] ∨ ∃ e ∈ es, e.2.2 < last) ∧
          ((∀ e ∈ es, e.2.2 ∉ seen → since ≤ e.2.2) → K (.tup [.bool false]) S) ∧
          ∀ e ∈ es, e.2.2 ∉ seen → K (.tup [.bool true, e.1, e.2.1]) (S.set k (.iter (some mi) since (seen ++ [e.2.2]) clock))
      | _ => False
    | _ => False
  | _ => False


section
variable {P : Program} {G : Nat → Option AVal} {E : Env}

theorem grownBy_drew (w : World) (o : Option Nat) : w.grownBy w.drew o := ⟨rfl, rfl, rfl, Nat.le_refl _, fun _ _ _ => rfl⟩

/-- The step's run, from any state of the map. -/
theorem run_next_any (w : World) (r bm since clock last : Nat) (seen : Array Nat) (es : Array MapEntry) (ty : TypeId)
    (hr : w.heap[r]? = some (.mapIter (some bm) since seen last)) (hb : w.heap[bm]? = some (.map es clock)) (hok : seen = #[] ∨ es = #[] ∨ ∃ e ∈ es.toList, e.born < last) :
    ((∀ e ∈ es.toList, e.born ∉ seen.toList → since ≤ e.born) ∧ ∃ w1 : World, (w1 = w ∨ w1 = w.drew) ∧ (Instr.next (.pointer (some ⟨r, 0, none⟩)) false ty).run P w = .ok (.tuple #[.bool false]) w1) ∨
    ∃ (j : Nat) (h : j < es.size), es[j].born ∉ seen.toList ∧ ∃ w1 : World, (w1 = w ∨ w1 = w.drew) ∧
      (Instr.next (.pointer (some ⟨r, 0, none⟩)) false ty).run P w = .ok (.tuple #[.bool true, es[j].key, es[j].val]) (w1.putObj r (.mapIter (some bm) since (seen.push es[j].born) clock)) := by
  have htest : (!seen.isEmpty && !es.isEmpty && es.all (fun e => decide (e.born ≥ last))) = false := by
    rcases hok with rfl | rfl | ⟨e, he, hl⟩
    · simp
    · simp
    · have : es.all (fun e => decide (e.born ≥ last)) = false := by
        rw [← Bool.not_eq_true, Array.all_eq_true']
        intro h
        have := h e (Array.mem_toList_iff.1 he)
        simp at this
        omega
      rw [this]; simp
  simp only [Instr.next, getObj, Sem.run_bind, Sem.run, hr, hb, Result.andThen, htest, Bool.false_eq_true, if_false]
  generalize hL : Array.filter (fun e => !seen.contains e.born) es = L
  have hmem : ∀ e ∈ L.toList, e ∈ es.toList ∧ e.born ∉ seen.toList := by
    intro e he
    rw [← hL] at he
    simp at he
    exact ⟨by simpa using he.1, by simpa using he.2⟩
  have hmem2 : ∀ e ∈ es.toList, e.born ∉ seen.toList → e ∈ L.toList := by
    intro e he hn
    rw [← hL]
    simp
    exact ⟨by simpa using he, by simpa using hn⟩
  generalize hc : (if (L.filter (fun x => decide (x.born < since))).isEmpty = true then #[none] else #[]) ++ (L.filter (fun x => decide (x.born < since)) ++ L.filter (fun x => decide (x.born ≥ since))).map some = cand
  have hpos : 0 < cand.size := by
    rw [← hc]
    by_cases h : (L.filter (fun x => decide (x.born < since))).isEmpty = true
    · simp [h]; omega
    · have h2 : (L.filter (fun x => decide (x.born < since))).size ≠ 0 := by
        intro e; exact h (by simpa [Array.isEmpty] using e)
      simp only [h, if_false, Array.size_append, Array.size_map]
      simp only [Bool.false_eq_true, if_false, Array.size_empty]
      omega
  have hch : ∃ (j : Nat) (w1 : World), j < cand.size ∧ (w1 = w ∨ w1 = w.drew) ∧ (choose (Question.mapNext cand.size)).run P w = .ok j w1 := by
    by_cases hf : cand.size ≤ 1
    · exact ⟨0, w, by omega, Or.inl rfl, by simp [choose, Sem.run, Question.forced, hf]⟩
    · exact ⟨_, w.drew, Nat.mod_lt _ (by omega), Or.inr rfl, by
        simp only [choose, Sem.run, Question.forced, decide_eq_true_eq, hf, if_false, Question.cut]
        rfl⟩
  obtain ⟨j, w1, hj, hal, hrun⟩ := hch
  have hr1 : w1.heap[r]? = some (.mapIter (some bm) since seen last) := by rcases hal with rfl | rfl <;> exact hr
  simp only [hrun, Array.getElem?_eq_getElem hj]
  have hin : cand[j] ∈ cand.toList := by simp
  cases hcj : cand[j] with
  | none =>
    left
    refine ⟨fun e he hn => ?_, w1, hal, by simp [Sem.run]⟩
    rw [hcj, ← hc] at hin
    have : (L.filter (fun x => decide (x.born < since))).isEmpty = true := by
      by_cases h : (L.filter (fun x => decide (x.born < since))).isEmpty = true
      · exact h
      · simp [h] at hin
    have h2 : L.filter (fun x => decide (x.born < since)) = #[] := by simpa using this
    rw [Array.filter_eq_empty_iff] at h2
    have := h2 e (Array.mem_toList_iff.1 (hmem2 e he hn))
    simp at this
    omega
  | some e =>
    right
    rw [hcj, ← hc] at hin
    have heL : e ∈ L.toList := by
      rw [Array.mem_toList_iff, Array.mem_append] at hin
      rcases hin with h | h
      · split at h <;> simp at h
      · simp only [Array.mem_map, Array.mem_append, Array.mem_filter] at h
        obtain ⟨e', h, he⟩ := h
        injection he with he
        subst he
        rcases h with h | h <;> exact Array.mem_toList_iff.2 h.1
    obtain ⟨h1, h2⟩ := hmem e heL
    obtain ⟨i, hi, rfl⟩ := List.getElem_of_mem h1
    refine ⟨i, by simpa using hi, by simpa using h2, w1, hal, ?_⟩
    simp only [Array.getElem_toList, Sem.run_bind, run_setObj_at hr1, Result.andThen]
    rfl

theorem next_ok (hE : Wf G E) {it : AVal} {x : Value} (hx : R E it x) {K : AVal → St → Prop} (h : aNext it E.S K) (ty : TypeId) :
    ∃ v y E', (Instr.next x false ty).run P E.w = .ok y E'.w ∧ Ext E E' ∧ Wf G E' ∧ R E' v y ∧ K v E'.S := by
  unfold aNext at h
  split at h
  · next k =>
    split at h
    · next since seen last hk =>
      cases hx with
      | ptr _ _ b hm hb =>
        obtain ⟨b', h1, h2⟩ := hE.entry k _ hk
        obtain rfl : b' = b := by rw [hm] at h1; injection h1 with h1; injection h1 with h1; exact h1.symm
        exact ⟨_, .tuple #[.bool false], E, by simp [Instr.next, getObj, Sem.run, h2, Result.andThen], Ext.refl E, hE, .tup _ _ rfl (fun j hj => by
          simp at hj; subst hj; exact .bool _), h⟩
    · next mi since seen last hk =>
      split at h
      · next es clock hmi =>
        obtain ⟨hok, hno, hyes⟩ := h
        cases hx with
        | ptr _ _ b hm hb =>
          obtain ⟨b', h1, c, hc1, hc2, h2⟩ := hE.entry k _ hk
          obtain rfl : b' = b := by rw [hm] at h1; injection h1 with h1; injection h1 with h1; exact h1.symm
          obtain ⟨c', ms, m1, m2, m3, m4⟩ := hE.entry mi _ hmi
          obtain rfl : c' = c := by rw [hc1] at m1; injection m1 with m1; injection m1 with m1; exact m1.symm
          have born : ∀ j (h : j < es.length), (ms.getD j default).born = es[j].2.2 := fun j hj => (m4 j hj).2.2
          have bornL : ∀ j (h : j < ms.size), ms[j].born = (es[j]'(by omega)).2.2 := fun j hj => by
            rw [← born j (by omega)]; simp [Array.getD, hj]
          rcases run_next_any (P := P) E.w b' c' since clock last seen.toArray ms ty h2 m2 (by
            rcases hok with h | h | ⟨e, he, hl⟩
            · exact .inl (by rw [h])
            · right; left; subst h; exact Array.eq_empty_of_size_eq_zero m3
            · right; right
              obtain ⟨j, hj, rfl⟩ := List.getElem_of_mem he
              exact ⟨ms[j]'(by omega), by simp, by rw [bornL j (by omega)]; exact hl⟩) with ⟨ha, w1, hw, hrun⟩ | ⟨j, hj, hn, w1, hw, hrun⟩
          · have hg : E.w.grownBy w1 none := by rcases hw with rfl | rfl; exact ⟨rfl, rfl, rfl, Nat.le_refl _, fun _ _ _ => rfl⟩; exact grownBy_drew _ _
            obtain ⟨k1, k2⟩ := env_grown hE hg
            refine ⟨_, _, { E with w := w1 }, hrun, k1, k2, .tup _ _ rfl (fun j hj => by simp at hj; subst hj; exact .bool _), hno fun e he hne => ?_⟩
            obtain ⟨j, hj, rfl⟩ := List.getElem_of_mem he
            have := ha (ms[j]'(by omega)) (by simp) (by rw [bornL j (by omega)]; simpa using hne)
            rwa [bornL j (by omega)] at this
          · have hw1 : w1.heap = E.w.heap := by rcases hw with rfl | rfl <;> rfl
            have hlt : b' < E.w.heap.size := heap_lt h2
            have hg : E.w.grownBy (w1.putObj b' (.mapIter (some c') since (seen.toArray.push ms[j].born) clock)) (some b') := by
              rcases hw with rfl | rfl
              · exact grownBy_putObj' _ _ _
              · exact ⟨rfl, rfl, rfl, by show E.w.heap.size ≤ (E.w.heap.setIfInBounds b' _).size; rw [Array.size_setIfInBounds]; exact Nat.le_refl _, fun k _ hk => World.putObj_heap_other (fun e => hk (by rw [e]))⟩
            obtain ⟨k1, k2⟩ := env_set hE hm hg _ (.iter (some mi) since (seen ++ [ms[j].born]) clock) hk rfl rfl (fun hext => by
              obtain ⟨x, hx, hxg⟩ := hc2
              obtain ⟨e1, y, hy, hyg⟩ := hext.box mi x hx hxg
              refine ⟨b', hm, c', hc1, ⟨y, hy, hyg⟩, ?_⟩
              have : (w1.putObj b' (.mapIter (some c') since (seen.toArray.push ms[j].born) clock)).heap[b']? = some (.mapIter (some c') since (seen.toArray.push ms[j].born) clock) :=
                World.putObj_heap_same (by rw [hw1]; exact hlt)
              rw [this]
              simp)
            have hj' : j < es.length := by omega
            refine ⟨.tup [.bool true, es[j].1, es[j].2.1], _, _, hrun, k1, k2, .tup _ _ rfl (fun q hq => ?_), ?_⟩
            · simp only [List.length_cons, List.length_nil] at hq
              have kv := m4 j hj'
              have e : ms.getD j default = ms[j] := by simp [Array.getD, hj]
              rw [e] at kv
              match q, hq with
              | 0, _ => exact .bool _
              | 1, _ => exact kv.1.ext hE k1
              | 2, _ => exact kv.2.1.ext hE k1
            · have := hyes es[j] (List.getElem_mem hj') (by rw [← bornL j hj]; simpa using hn)
              rw [← bornL j hj] at this
              exact this
      · exact h.elim
    · exact h.elim
  · exact h.elim
end
end Go.Am
