/- The abstract layer: boxes that nobody knows of any more are let go. -/
import Derived.Test.YtodiaabcaahnjaaGreatDoorAmYield
import Derived.Test.YtodiaabcaahnjaaGreatDoorAmPure
set_option linter.unusedVariables false
set_option linter.unusedSimpArgs false
namespace Go.Am
open Go
noncomputable section
open Classical
def belT (n : Nat) : Tag → Bool
  | .grow g => Nat.blt g n
  | .own g => Nat.blt g n
  | .lit => Nat.blt 0 n
  | _ => true
mutual
def bel (n : Nat) : AVal → Bool
  | .ptr i _ => Nat.blt i n
  | .view i _ _ _ => Nat.blt i n
  | .vrow i _ _ => Nat.blt i n
  | .map i => Nat.blt i n
  | .yld i => Nat.blt i n
  | .room g _ _ _ => Nat.blt g n
  | .cptr cs => bels n cs
  | .sl _ _ xs tg => belT n tg && bels n xs
  | .fn _ as bs => bels n as && bels n bs
  | .ifc _ v => bel n v
  | .agg cs => bels n cs
  | .tup vs => bels n vs
  | _ => true
def bels (n : Nat) : List AVal → Bool
  | [] => true
  | v :: vs => bel n v && bels n vs
end
theorem bels_iff {n : Nat} : ∀ {vs : List AVal}, bels n vs = true ↔ ∀ v ∈ vs, bel n v = true
  | [] => by simp [bels]
  | v :: vs => by simp [bels, bels_iff (vs := vs)]
theorem bel_cells {n : Nat} {v : AVal} (h : bel n v = true) : ∀ c ∈ v.cells, bel n c = true := by
  cases v <;> simp only [AVal.cells, List.mem_singleton] <;> first | (rintro c rfl; exact h) | exact bels_iff.1 h
theorem blt_iff {a b : Nat} : Nat.blt a b = true ↔ a < b := by simp [Nat.blt, Nat.succ_le_iff]
mutual
theorem clo_ok : ∀ v : AVal, bel 0 v = true → Closed v
  | .any, _ => .any
  | .raw v, _ => .raw v
  | .int k n, _ => .int k n
  | .bool b, _ => .bool b
  | .str s, _ => .str s
  | .nilp, _ => .nilp
  | .ptr i o, h => by simp [bel, Nat.blt] at h
  | .view i o n c, h => by simp [bel, Nat.blt] at h
  | .vrow i o n, h => by simp [bel, Nat.blt] at h
  | .map i, h => by simp [bel, Nat.blt] at h
  | .yld i, h => by simp [bel, Nat.blt] at h
  | .room g _ _ _, h => by simp [bel, Nat.blt] at h
  | .cptr cs, h => .cptr cs (clos_ok cs (by simpa [bel] using h))
  | .sl sz nl xs tg, h => by
    simp only [bel, Bool.and_eq_true] at h
    exact .sl sz nl xs tg (fun g => ⟨fun e => (by rw [e] at h; simp [belT, Nat.blt] at h), fun e => (by rw [e] at h; simp [belT, Nat.blt] at h), fun e => (by rw [e] at h; simp [belT, Nat.blt] at h)⟩) (clos_ok xs h.2)
  | .nilmap, _ => .nilmap
  | .fn f as bs, h => by
    simp only [bel, Bool.and_eq_true] at h
    exact .fn f as bs (clos_ok as h.1) (clos_ok bs h.2)
  | .nilfn, _ => .nilfn
  | .ifc t v, h => .ifc t v (clo_ok v (by simpa [bel] using h))
  | .nilifc, _ => .nilifc
  | .agg cs, h => .agg cs (clos_ok cs (by simpa [bel] using h))
  | .tup cs, h => .tup cs (clos_ok cs (by simpa [bel] using h))
theorem clos_ok : ∀ vs : List AVal, bels 0 vs = true → ∀ v ∈ vs, Closed v
  | [], _ => fun v h => by cases h
  | x :: xs, h => by
    simp only [bels, Bool.and_eq_true] at h
    intro v hv
    have h1 := clo_ok x h.1
    rcases List.mem_cons.1 hv with e | hv
    · rw [e]; exact h1
    · exact clos_ok xs h.2 v hv
end
def belF (n : Nat) : Fr → Bool
  | [] => true
  | (_, v) :: r => bel n v && belF n r
def belM (n : Nat) : List (AVal × AVal × Nat) → Bool
  | [] => true
  | (k, v, _) :: r => bel n k && bel n v && belM n r
def belP (n : Nat) : List (AVal × AVal) → Bool
  | [] => true
  | (k, v) :: r => bel n k && bel n v && belP n r
def belB (n : Nat) : ABox → Bool
  | .cells cs _ => bels n cs
  | .grow _ _ _ => true
  | .mp es _ => belM n es
  | .iter m _ _ _ => match m with
    | some k => Nat.blt k n
    | none => true
  | .loop fr _ _ _ _ _ _ _ => belF n fr
  | .mpx es _ => belP n es
  | .frz o => match o with
    | some es => belP n es
    | none => true
  | .hole => true
  | .siter _ _ => true
  | .row cs _ => bels n cs
def belS (n : Nat) : St → Bool
  | [] => true
  | x :: S => belB n x && belS n S
theorem belS_iff {n : Nat} : ∀ {S : St}, belS n S = true ↔ ∀ x ∈ S, belB n x = true
  | [] => by simp [belS]
  | x :: S => by simp [belS, belS_iff (S := S)]
theorem belF_get {n : Nat} : ∀ {fr : Fr}, belF n fr = true → ∀ t, bel n (fr.get t) = true
  | [], _, _ => rfl
  | (k, v) :: r, h, t => by
    simp only [belF, Bool.and_eq_true] at h
    simp only [Fr.get]
    split
    · exact h.1
    · exact belF_get h.2 t
theorem belM_get {n : Nat} : ∀ {es : List (AVal × AVal × Nat)}, belM n es = true → ∀ e ∈ es, bel n e.1 = true ∧ bel n e.2.1 = true
  | [], _, e, h => by cases h
  | (k, v, q) :: r, h, e, he => by
    simp only [belM, Bool.and_eq_true] at h
    rcases List.mem_cons.1 he with rfl | he
    · exact h.1
    · exact belM_get h.2 e he
theorem belP_get {n : Nat} : ∀ {es : List (AVal × AVal)}, belP n es = true → ∀ e ∈ es, bel n e.1 = true ∧ bel n e.2 = true
  | [], _, e, h => by cases h
  | (k, v) :: r, h, e, he => by
    simp only [belP, Bool.and_eq_true] at h
    rcases List.mem_cons.1 he with rfl | he
    · exact h.1
    · exact belP_get h.2 e he
def Env.cut (E : Env) (n : Nat) : Env := { E with mu := E.mu.take n, S := E.S.take n }
section
variable {G : Nat → Option AVal} {E : Env} {n : Nat}
theorem cut_free {b : Nat} (h : E.free b) : (E.cut n).free b := by
  intro i hi
  have hi : (E.mu.take n)[i]? = some (some b) := hi
  rw [List.getElem?_take] at hi
  split at hi
  · exact h i hi
  · cases hi
theorem cut_mu {i : Nat} (h : i < n) : (E.cut n).mu[i]? = E.mu[i]? := by
  show (E.mu.take n)[i]? = _
  rw [List.getElem?_take, if_pos h]
theorem cut_S {i : Nat} (h : i < n) : (E.cut n).S[i]? = E.S[i]? := by
  show (E.S.take n)[i]? = _
  rw [List.getElem?_take, if_pos h]
theorem cut_Im (hE : Wf G E) {b o : Nat} (h : E.Im b o) : (E.cut n).Im b o := by
  obtain ⟨h1, h2⟩ := h
  refine ⟨h1, ?_⟩
  rcases h2 with h2 | ⟨h2, h3⟩ | ⟨h2, i, m, sz, t, h3, h4, h5⟩
  · exact .inl h2
  · exact .inr (.inl ⟨h2, cut_free h3⟩)
  · rcases Nat.lt_or_ge i n with hi | hi
    · exact .inr (.inr ⟨h2, i, m, sz, t, (cut_mu hi).trans h3, (cut_S hi).trans h4, h5⟩)
    · refine .inr (.inl ⟨h2, fun j hj => ?_⟩)
      have hj : (E.mu.take n)[j]? = some (some b) := hj
      rw [List.getElem?_take] at hj
      split at hj
      · have := hE.inj j i b hj h3
        omega
      · cases hj
theorem R.cut (hE : Wf G E) {v : AVal} {x : Value} (k : R E v x) (hb : bel n v = true) : R (E.cut n) v x := by
  have hol : ∀ {ad : Addr} {j : Nat} {y : Value}, E.holds ad j y → (E.cut n).holds ad j y := fun ⟨h1, h2, h3, h4⟩ => ⟨h1, h2, cut_Im hE h3, h4⟩
  have tg : ∀ {sz : Nat} {t : Tag} {a : Option Addr} {m c : Nat}, belT n t = true → E.tagOk sz t a m c → (E.cut n).tagOk sz t a m c := by
    intro sz t a m c hb h
    cases t with
    | any => trivial
    | full => exact h
    | lit => exact ⟨h.1, fun ad ha => by obtain ⟨h1, h2, h3, h4⟩ := h.2 ad ha; exact ⟨h1, h2, h3, cut_free h4⟩⟩
    | grow g =>
      have hg : g < n := blt_iff.1 hb
      obtain ⟨q, ty, h1, h2, h3⟩ := h
      refine ⟨q, ty, (cut_S hg).trans h1, h2, fun e => ?_⟩
      rcases h3 e with ⟨k1, k2⟩ | ⟨b, arr, k1, k2⟩
      · exact .inl ⟨(cut_mu hg).trans k1, k2⟩
      · exact .inr ⟨b, arr, (cut_mu hg).trans k1, k2⟩
    | own g =>
      have hg : g < n := blt_iff.1 hb
      obtain ⟨q, ty, h1, h2, h3⟩ := h
      refine ⟨q, ty, (cut_S hg).trans h1, h2, fun e => ?_⟩
      rcases h3 e with ⟨k1, k2⟩ | ⟨b, arr, k1, k2⟩
      · exact .inl ⟨(cut_mu hg).trans k1, k2⟩
      · exact .inr ⟨b, arr, (cut_mu hg).trans k1, k2⟩
  induction k with
  | any x => exact .any x
  | raw x => exact .raw x
  | int k n => exact .int k n
  | bool b => exact .bool b
  | str s l h => exact .str s l h
  | nilp => exact .nilp
  | ptr i off b hm hbx => have hi := blt_iff.1 hb; exact .ptr i off b ((cut_mu hi).trans hm) (by rw [cut_S hi]; exact hbx)
  | cptr cs ad f hf hr ih => exact .cptr cs ad f (fun j hj => hol (hf j hj)) fun j hj => ih j hj (bels_iff.1 hb _ (List.getElem_mem hj))
  | slnil sz t ht => simp only [bel, Bool.and_eq_true] at hb; exact .slnil sz t (tg hb.1 ht)
  | sl sz xs t ad m c f hn hc hm hf hsz hr ht ih =>
    simp only [bel, Bool.and_eq_true] at hb
    exact .sl sz xs t ad m c f hn hc hm (fun j hj => hol (hf j hj)) hsz (fun k hk j hj => ih k hk j hj (bel_cells (bels_iff.1 hb.2 _ (List.getElem_mem hk)) _ (List.getElem_mem hj))) (tg hb.1 ht)
  | view i off m cap b hnc hm hbx => have hi := blt_iff.1 hb; exact .view i off m cap b hnc ((cut_mu hi).trans hm) (by rw [cut_S hi]; exact hbx)
  | vrow i off m b c hnc hcm hm hbx => have hi := blt_iff.1 hb; exact .vrow i off m b c hnc hcm ((cut_mu hi).trans hm) (by rw [cut_S hi]; exact hbx)
  | nilmap => exact .nilmap
  | map i b hm hbx => have hi := blt_iff.1 hb; exact .map i b ((cut_mu hi).trans hm) (by rw [cut_S hi]; exact hbx)
  | fn f xs ys as bs h1 h2 hx hy ihx ihy =>
    simp only [bel, Bool.and_eq_true] at hb
    exact .fn f xs ys as bs h1 h2 (fun j hj => ihx j hj (bels_iff.1 hb.1 _ (List.getElem_mem hj))) fun j hj => ihy j hj (bels_iff.1 hb.2 _ (List.getElem_mem hj))
  | nilfn => exact .nilfn
  | ifc t v x hx ih => exact .ifc t v x (ih hb)
  | nilifc => exact .nilifc
  | agg cs as h1 hx ih => exact .agg cs as h1 fun j hj => ih j hj (bels_iff.1 hb _ (List.getElem_mem hj))
  | tup cs as h1 hx ih => exact .tup cs as h1 fun j hj => ih j hj (bels_iff.1 hb _ (List.getElem_mem hj))
  | yld i b hm hbx => have hi := blt_iff.1 hb; exact .yld i b ((cut_mu hi).trans hm) (by rw [cut_S hi]; exact hbx)
  | room g sz t q b c hn hm h =>
    have hi := blt_iff.1 hb
    obtain ⟨m, h1, h2⟩ := h
    refine .room g sz t q b c hn hm ⟨m, (cut_S hi).trans h1, fun e => ?_⟩
    obtain ⟨q1, q2⟩ := h2 e
    exact ⟨(cut_mu hi).trans q1, q2⟩
theorem entryOk.cut (hE : Wf G E) {i : Nat} {x : ABox} (hi : i < n) (k : entryOk E i x) (hb : belB n x = true) : entryOk (E.cut n) i x := by
  have hmp : ∀ es es' c, MX es es' c → belP n es = true → mpOk E i es' c → mpOk (E.cut n) i es' c := by
    intro es es' c hx hb ⟨b, ms, h1, h2, h3, h4⟩
    have hbe : ∀ e ∈ es', bel n e.1 = true ∧ bel n e.2.1 = true := fun e he => belP_get hb (e.1, e.2.1) (hx.perm.mem_iff.1 (List.mem_map.2 ⟨e, he, rfl⟩))
    exact ⟨b, ms, (cut_mu hi).trans h1, h2, h3, fun j hj => ⟨(h4 j hj).1.cut hE (hbe _ (List.getElem_mem hj)).1, (h4 j hj).2.1.cut hE (hbe _ (List.getElem_mem hj)).2, (h4 j hj).2.2⟩⟩
  cases x with
  | cells cs t =>
    obtain ⟨b, arr, h1, h2, h3, h4⟩ := k
    exact ⟨b, arr, (cut_mu hi).trans h1, h2, h3, fun j hj => ⟨(h4 j hj).1.cut hE (bels_iff.1 hb _ (List.getElem_mem hj)), (h4 j hj).2⟩⟩
  | row cs t =>
    obtain ⟨b, arr, h1, h2, h3, h4⟩ := k
    exact ⟨b, arr, (cut_mu hi).trans h1, h2, h3, fun j hj => ⟨(h4 j hj).1.cut hE (bels_iff.1 hb _ (List.getElem_mem hj)), (h4 j hj).2⟩⟩
  | grow m sz t =>
    rcases k with k | ⟨b, arr, h1, h2⟩
    · exact .inl ((cut_mu hi).trans k)
    · exact .inr ⟨b, arr, (cut_mu hi).trans h1, h2⟩
  | frz o =>
    cases o with
    | none => trivial
    | some es =>
      obtain ⟨c, es', hx, q⟩ := k
      exact ⟨c, es', hx, hmp es es' c hx hb q⟩
  | mpx es c =>
    obtain ⟨es', hx, q⟩ := k
    exact ⟨es', hx, hmp es es' c hx hb q⟩
  | hole => trivial
  | siter s pos =>
    obtain ⟨b, ba, h1, h2, h3⟩ := k
    exact ⟨b, ba, (cut_mu hi).trans h1, h2, h3⟩
  | mp es c =>
    obtain ⟨b, ms, h1, h2, h3, h4⟩ := k
    exact ⟨b, ms, (cut_mu hi).trans h1, h2, h3, fun j hj => ⟨(h4 j hj).1.cut hE (belM_get hb _ (List.getElem_mem hj)).1, (h4 j hj).2.1.cut hE (belM_get hb _ (List.getElem_mem hj)).2, (h4 j hj).2.2⟩⟩
  | iter m since seen last =>
    obtain ⟨b, h1, h2⟩ := k
    refine ⟨b, (cut_mu hi).trans h1, ?_⟩
    cases m with
    | none => exact h2
    | some q =>
      have hq : q < n := blt_iff.1 hb
      obtain ⟨c, k1, k2, k3⟩ := h2
      exact ⟨c, (cut_mu hq).trans k1, by rw [cut_S hq]; exact k2, k3⟩
  | loop fr N ps asg body st pend tag =>
    obtain ⟨b, r, h1, h2, h3, h4, h5, h6, h7, h8, h9⟩ := k
    exact ⟨b, r, (cut_mu hi).trans h1, h2, h3, h4, h5, h6, h7, h8, fun t => (h9 t).cut hE (belF_get hb t)⟩
theorem env_cut (hG : ∀ g v, G g = some v → Closed v) (hE : Wf G E) (hb : belS n (E.S.take n) = true) : Wf G (E.cut n) := by
  refine ⟨?_, fun i j b h1 h2 => ?_, fun i b h => ?_, hE.base, fun b o h1 h2 => cut_free (hE.im b o h1 h2), fun i x h => ?_, fun g v h => ?_⟩
  · show (E.mu.take n).length = (E.S.take n).length
    simp [hE.len]
  · have h1 : (E.mu.take n)[i]? = some (some b) := h1
    have h2 : (E.mu.take n)[j]? = some (some b) := h2
    rw [List.getElem?_take] at h1 h2
    split at h1 <;> split at h2 <;> first | cases h1 | cases h2 | exact hE.inj i j b h1 h2
  · have h : (E.mu.take n)[i]? = some (some b) := h
    rw [List.getElem?_take] at h
    split at h
    · exact hE.lt i b h
    · cases h
  · have h : (E.S.take n)[i]? = some x := h
    have hm := List.mem_of_getElem? h
    rw [List.getElem?_take] at h
    split at h
    · next hi => exact (hE.entry i x h).cut hE hi (belS_iff.1 hb x hm)
    · cases h
  · have hs : Sees E (E.cut n) := ⟨fun b o hi => ⟨cut_Im hE hi, rfl⟩⟩
    exact ⟨(hG g v h).move hs (hE.glob g v h).r, cut_free (hE.glob g v h).free, (hE.glob g v h).obj⟩
theorem ext_cut {E0 : Env} (h : Ext E0 E) (hn : E0.S.length ≤ n) : Ext E0 (E.cut n) := by
  have lt_of : ∀ (i : Nat) (y : ABox), E0.S[i]? = some y → i < n := fun i y h => by
    rcases Nat.lt_or_ge i E0.S.length with hlt | hge
    · omega
    · rw [List.getElem?_eq_none hge] at h; cases h
  refine ⟨h.base, h.im0, h.act, h.size, h.os, h.tape, h.output, ?_, fun b hb hf => ⟨cut_free (h.free b hb hf).1, (h.free b hb hf).2⟩, fun i x hx hg => ?_, fun i m sz t hi => ?_, fun i b o hS hm => ⟨(cut_S (lt_of i _ hS)).trans (h.frz i b o hS hm).1, (h.frz i b o hS hm).2⟩⟩
  · show E0.S.length ≤ (E.S.take n).length
    have := h.len
    simp; omega
  · obtain ⟨e, y, hy, hyg⟩ := h.box i x hx hg
    have hi := lt_of i x hx
    exact ⟨(cut_mu hi).trans e, y, (cut_S hi).trans hy, hyg⟩
  · obtain ⟨m', h1, h2, h3, h4⟩ := h.grow i m sz t hi
    have hi := lt_of i _ hi
    refine ⟨m', (cut_S hi).trans h1, h2, fun e => ⟨(cut_mu hi).trans (h3 e).1, (h3 e).2⟩, fun b hb => ⟨(h4 b hb).1, ?_⟩⟩
    rcases (h4 b hb).2 with k | k
    · exact .inl ((cut_mu hi).trans k)
    · exact .inr (cut_free k)
theorem ACall.drop {C : Cx} (hG : GClosed C) {f : FuncId} {args : List AVal} {S S' : St} {r : AVal} (h : ACall C f args S r S') (hn : S.length ≤ n) (hr : bel n r = true) (hS : belS n (S'.take n) = true) : ACall C f args S r (S'.take n) :=
  ⟨h.callable, fun E vs hE hES hvs hrel => (h.ok E vs hE hES hvs hrel).mono fun _ _ ⟨E', v, h1, h2, h3, h4, h5, h6⟩ =>
    ⟨E'.cut n, v, h1, h2, env_cut hG h3 (by rw [h5]; exact hS), ext_cut h4 (by rw [hES]; exact hn), by show E'.S.take n = _; rw [h5], h6.cut h3 hr⟩⟩
end
end
end Go.Am
