/- A setup's lines: the document's Lines; script's Lines, a range over a function, from any state. -/
import Derived.Test.YtodiaabcaahnjaaGreatDoorS17
import Derived.Test.YtodiaabcaahnjaaGreatDoorAmWalkE
import Derived.Test.YtodiaabcaahnjaaGreatDoorAmWalkE
set_option linter.unusedVariables false
set_option linter.unusedSimpArgs false
namespace Go.Am
open Go Go.Proofs
set_option maxHeartbeats 8000000
set_option maxRecDepth 100000
section
attribute [local irreducible] aC aL thenQ blockQ scopeQ ALoop AWp
theorem at0 {α : Type} {l r : List α} {x : α} {n : Nat} (h : l.length = n) : (l ++ x :: r)[n]? = some x := by subst h; simp
theorem at1 {α : Type} {l r : List α} {x y : α} {n : Nat} (h : l.length + 1 = n) : (l ++ x :: y :: r)[n]? = some y := by subst h; rw [List.getElem?_append_right (by omega)]; simp
theorem set0 {α : Type} {l r : List α} {x z : α} {n : Nat} (h : l.length = n) : (l ++ x :: r).set n z = l ++ z :: r := by subst h; simp
theorem set1 {α : Type} {l r : List α} {x y z : α} {n : Nat} (h : l.length + 1 = n) : (l ++ x :: y :: r).set n z = l ++ x :: z :: r := by subst h; rw [List.set_append_right _ _ (by omega)]; simp
attribute [go_sem] at0 at1 set0 set1
def GRAN : List UInt8 := [103, 114, 97, 110, 117, 108, 101, 115]
def MASTER : List UInt8 := [109, 97, 115, 116, 101, 114]
def DRAW : List UInt8 := [100, 114, 97, 119]
def ENTR : List UInt8 := [101, 110, 116, 114, 111, 112, 121]
def entT (n : Nat) : List UInt8 := numT ENTR [n]
def linesA (s : Su) (j k : Nat) : List (List UInt8) := numT GRAN [s.g.toNat] :: modeT s.i :: digT MASTER s.m :: ((s.d.take j).map (digT DRAW) ++ (s.e.take k).map entT)
def linesL (s : Su) : List (List UInt8) := linesA s s.d.length s.e.length
theorem linesA_len (s : Su) (j k : Nat) (hj : j ≤ s.d.length) (hk : k ≤ s.e.length) : (linesA s j k).length = 3 + j + k := by simp [linesA, Nat.min_eq_left hj, Nat.min_eq_left hk]; omega
theorem linesA_d (s : Su) (j : Nat) (h : j < s.d.length) : linesA s (j + 1) 0 = linesA s j 0 ++ [digT DRAW s.d[j]] := by
  unfold linesA
  rw [List.take_succ_eq_append_getElem h]
  simp only [List.map_append, List.take_zero, List.map_nil, List.append_nil, List.map_cons, List.cons_append]
theorem linesA_e (s : Su) (j k : Nat) (h : k < s.e.length) : linesA s j (k + 1) = linesA s j k ++ [entT s.e[k]] := by
  unfold linesA
  rw [List.take_succ_eq_append_getElem h]
  simp only [List.map_append, List.map_nil, List.map_cons, List.cons_append, List.append_assoc]
theorem bels_dgs (n : Nat) (d : List (List UInt8)) : bels n (dgs d) = true := bels_iff.2 fun x hx => by
  obtain ⟨b, _, rfl⟩ := List.mem_map.1 hx
  exact bels_iff.2 fun y hy => by obtain ⟨c, _, rfl⟩ := List.mem_map.1 hy; rfl
theorem bels_bytes' (n : Nat) (l : List UInt8) : bels n (bl l) = true := bels_iff.2 fun x hx => by obtain ⟨b, _, rfl⟩ := List.mem_map.1 hx; rfl
theorem bels_append' (n : Nat) (a b : List AVal) : bels n (a ++ b) = (bels n a && bels n b) := by
  rw [Bool.eq_iff_iff, Bool.and_eq_true, bels_iff, bels_iff, bels_iff]
  simp only [List.mem_append, or_imp, forall_and]
theorem bels_suC (n : Nat) (s : Su) (nd ne : Bool) : bels n (suC s nd ne) = true := by
  simp [suC, bels, bel, bels_append', bels_bytes', bels_dgs, bels_wl, belT]
theorem ref_Lines0 (s : Su) (hs : s.Ok) (hm : MaySu s) (nd ne : Bool) : ACall cx 59 [.agg (suC s nd ne)] [] (.sl 1 false ((linesL s).map .str) (.grow 0)) [.grow (3 + s.d.length + s.e.length) 1 9] := by
  obtain ⟨⟨hg1, hg2⟩, hd, he⟩ := hm
  obtain ⟨n, hn⟩ : ∃ n : Nat, s.g = (n : Int) := ⟨s.g.toNat, by omega⟩
  have hN := ref_n GRAN false [n] (by simp) (by simp [GRAN]) (by simp; omega)
  have hM := ref_mode s.i
  have hD := ref_digest MASTER s.m (by simp [MASTER]) hs.m32
  have hDs : ∀ x ∈ s.d, APure cx 91 [.str [100, 114, 97, 119], .agg (bl x)] (.str (digT DRAW x)) := fun x hx => ref_digest DRAW x (by simp [DRAW]) (hs.d32 x hx)
  have hEs : ∀ x ∈ s.e, APure cx 82 [.str [101, 110, 116, 114, 111, 112, 121], .sl 1 false [.int .u64 (x : Nat)] .any] (.str (entT x)) := fun x hx => ref_n ENTR false [x] (by simp) (by simp [ENTR]) (by simpa using hs.ew x hx)
  have hm32 := hs.m32
  have h32 := hs.d32
  have hA0 : linesA s 0 0 = [numT GRAN [n], modeT s.i, digT MASTER s.m] := by simp [linesA, hn]
  have hAd := linesA_d s
  have hAe := linesA_e s s.d.length
  have hAl := linesA_len s
  unfold linesL
  generalize linesA s = A at *
  generalize numT GRAN [n] = X1 at *
  generalize digT MASTER s.m = X3 at *
  generalize modeT s.i = X2 at *
  clear hs
  obtain ⟨g, i, m, d, e⟩ := s
  simp only at *
  subst hn
  simp only [wl, List.map_cons, List.map_nil] at hN
  unfold GRAN at hN
  unfold MASTER at hD
  unfold suC
  simp only
  refine acall_fnK cxOk Tryz.func59 (fun _ => false) (fe59.q) (by kernel_rfl) (by dsimp only [Tryz.f59, go_sem, seval] <;> rfl) ?_
  dsimp only [Tryz.f59, frame0, List.zipIdx, List.map, Nat.reduceAdd]
  try simp only [List.getElem?_toArray, List.getElem?_cons_succ, List.getElem?_cons_zero, Option.bind_some]
  repeat' (first | (apply aL_boxI; (case hg => (simp (disch := first | omega | (simp only [go_sem]; omega)) only [go_sem, seval])); (case h => (simp (disch := first | omega | (simp only [go_sem]; omega)) only [go_sem, seval] <;> with_reducible rfl)); (case hf => (simp only [go_sem] <;> with_reducible rfl)); (case hs => (simp (disch := first | omega | (simp only [go_sem]; omega)) only [go_sem, seval]))) | refine aC_seq ?_ | refine aC_reg rfl ?_ | refine thenQ_normal ?_ | refine aL_nil ?_ | (apply aL_step; (· exact True.intro); (iterate 2 (· simp (disch := first | omega | (simp only [go_sem]; omega)) only [go_sem, seval] <;> with_reducible rfl)); (· simp only [go_sem] <;> with_reducible rfl)) | fail)
  all_goals try (first | exact True.intro | exact not_false | omega | (simp (disch := first | omega | (simp only [go_sem]; omega)) only [go_sem, seval] <;> omega))
  refine aC_regB (U := [(some 12, some 10), (some 15, some 10), (some 15, some 13)]) rfl [] ?_
  repeat' (first | refine aLB_nil ?_ | (apply aLB_step; (· exact True.intro); (· exact (by intro h; cases h)); (· rfl); (· simp (disch := first | omega | (simp only [go_sem]; omega)) only [go_sem, seval]); (· simp (disch := first | omega | (simp only [go_sem]; omega)) only [go_sem, seval] <;> with_reducible rfl); (· simp only [go_sem] <;> with_reducible rfl); (· (intro b hb; first | (cases hb; done) | (simp (disch := first | omega | (simp only [go_sem]; omega)) only [loadBox, go_sem, seval] at hb; (try injection hb with hb); subst hb; simp)))) | (apply aLB_pure cxG (hN); (case hg => (simp (disch := first | omega | (simp only [go_sem]; omega)) only [go_sem, seval])); (case hx => (simp (disch := first | omega | (simp only [go_sem]; omega)) only [go_sem, seval] <;> with_reducible rfl)); (case ha => (simp (disch := first | omega | (simp only [go_sem]; omega)) only [go_sem, seval] <;> with_reducible rfl)); (case he => (simp only [go_sem] <;> with_reducible rfl)); (case hcl => (simp)); (case hf => (simp only [go_sem] <;> with_reducible rfl))) | (apply aLB_pure cxG (hM); (case hg => (simp (disch := first | omega | (simp only [go_sem]; omega)) only [go_sem, seval])); (case hx => (simp (disch := first | omega | (simp only [go_sem]; omega)) only [go_sem, seval] <;> with_reducible rfl)); (case ha => (simp (disch := first | omega | (simp only [go_sem]; omega)) only [go_sem, seval] <;> with_reducible rfl)); (case he => (simp only [go_sem] <;> with_reducible rfl)); (case hcl => (simp)); (case hf => (simp only [go_sem] <;> with_reducible rfl))) | (apply aLB_pure cxG (hD); (case hg => (simp (disch := first | omega | (simp only [go_sem]; omega)) only [go_sem, seval])); (case hx => (simp (disch := first | omega | (simp only [go_sem]; omega)) only [go_sem, seval] <;> with_reducible rfl)); (case ha => (simp (disch := first | omega | (simp only [go_sem]; omega)) only [go_sem, seval] <;> with_reducible rfl)); (case he => (simp only [go_sem] <;> with_reducible rfl)); (case hcl => (simp)); (case hf => (simp only [go_sem] <;> with_reducible rfl))) | fail)
  repeat' (first | refine aC_seq ?_ | refine aC_reg rfl ?_ | refine aC_block ?_ | refine aC_loop ?_ | refine thenQ_normal ?_ | refine aL_nil ?_ | (apply aL_step; (· exact True.intro); (iterate 2 (· simp (disch := first | omega | (simp only [go_sem]; omega)) only [go_sem, seval] <;> with_reducible rfl)); (· simp only [go_sem] <;> with_reducible rfl)) | fail)
  · clear hN hM hD
    refine loop_rule (cxOk.wp _ _) (σ := Nat) (fun k => [(4, .int .i64 k), (3, .sl 1 false ((A k 0).map .str) (.grow 0)), (1, .cptr (.int .i64 n :: .bool i :: (bl m ++ [.sl 32 nd (dgs d) .any, .sl 1 ne (wl e) .any])))])
      (fun k => [.grow (3 + k) 1 9]) (fun k => d.length - k) (fun k => k ≤ d.length) 0 (GStep.full 3 9 rfl) ⟨Nat.zero_le _, Sub.of_all (by simp [Fr.get, hA0]), by simp⟩ ?_
    intro k hk
    have hlk := hAl k 0 hk (Nat.zero_le _)
    by_cases hlt : k < d.length
    · have hgd := getD_dgs d k .any hlt
      have hc := hDs _ (List.getElem_mem hlt)
      have hx32 := h32 _ (List.getElem_mem hlt)
      have hs1 := hAd k hlt
      clear hDs hEs hAd hAe hA0 hAl
      generalize hB : A (k + 1) 0 = B at *
      generalize A k 0 = B0 at *
      generalize d[k] = x at *
      generalize digT DRAW x = y at *
      repeat' (first | refine aC_seq ?_ | refine aC_reg rfl ?_ | refine aC_block ?_ | refine aC_skip ?_ | refine thenQ_normal ?_ | refine blockQ_normal ?_ | refine aL_nil ?_ | (apply aL_step; (· exact True.intro); (iterate 2 (· simp (disch := first | omega | (simp only [go_sem]; omega)) only [go_sem, seval, hgd] <;> with_reducible rfl)); (· simp only [go_sem] <;> with_reducible rfl)) | (refine aC_condP (by simp (disch := first | omega | (simp only [go_sem]; omega)) only [go_sem, seval, hgd] <;> with_reducible rfl) ?_ ?_ <;> (intro h; first | (exfalso; omega) | skip)) | (apply aL_pK cxG (hc); (iterate 2 (· simp (disch := first | omega | (simp only [go_sem]; omega)) only [go_sem, seval, hgd] <;> with_reducible rfl)); (· simp only [go_sem] <;> with_reducible rfl); (· simp)) | fail)
      all_goals try (first | exact True.intro | exact not_false | omega | (simp (disch := first | omega | (simp only [go_sem]; omega)) only [go_sem, seval] <;> omega))
      all_goals clear hc
      all_goals try (exact ⟨k + 1, by omega, Sub.of_all (by simp [Fr.get, hB, hs1]), by simp [hlk]; omega, by omega⟩)
      all_goals try (simp (disch := first | omega | (simp only [go_sem]; omega)) only [go_sem, seval])
      all_goals try simp
      all_goals try omega
    · have hk2 : k = d.length := by omega
      subst hk2
      repeat' (first | refine aC_seq ?_ | refine aC_reg rfl ?_ | refine aC_block ?_ | refine aC_loop ?_ | refine aC_exit ?_ | refine thenQ_normal ?_ | refine thenQ_exit ?_ | refine blockQ_hit ?_ | refine aL_nil ?_ | (apply aL_step; (· exact True.intro); (iterate 2 (· simp (disch := first | omega | (simp only [go_sem]; omega)) only [go_sem, seval] <;> with_reducible rfl)); (· simp only [go_sem] <;> with_reducible rfl)) | (refine aC_condP (by simp (disch := first | omega | (simp only [go_sem]; omega)) only [go_sem, seval] <;> with_reducible rfl) ?_ ?_ <;> (intro h; first | (exfalso; omega) | skip)) | fail)
      · refine loop_rule (cxOk.wp _ _) (σ := Nat) (fun j => [(5, .int .i64 j), (3, .sl 1 false ((A d.length j).map .str) (.grow 0)), (1, .cptr (.int .i64 n :: .bool i :: (bl m ++ [.sl 32 nd (dgs d) .any, .sl 1 ne (wl e) .any])))])
          (fun j => [.grow (3 + d.length + j) 1 9]) (fun j => e.length - j) (fun j => j ≤ e.length) 0 (GStep.refl _ _) ⟨Nat.zero_le _, Sub.of_all (by simp [Fr.get]), by simp⟩ ?_
        intro j hj
        have hlj := hAl d.length j (Nat.le_refl _) hj
        by_cases hlt : j < e.length
        · have hgd := getD_wlx e j .any hlt
          have hc := hEs _ (List.getElem_mem hlt)
          have hs1 := hAe j hlt
          clear hDs hEs hAd hAe hA0 hAl
          generalize hB : A d.length (j + 1) = B at *
          generalize A d.length j = B0 at *
          generalize e[j] = x at *
          generalize entT x = y at *
          repeat' (first | refine aC_seq ?_ | refine aC_reg rfl ?_ | refine aC_block ?_ | refine aC_skip ?_ | refine thenQ_normal ?_ | refine blockQ_normal ?_ | refine aL_nil ?_ | (apply aL_step; (· exact True.intro); (iterate 2 (· simp (disch := first | omega | (simp only [go_sem]; omega)) only [go_sem, seval, hgd] <;> with_reducible rfl)); (· simp only [go_sem] <;> with_reducible rfl)) | (refine aC_condP (by simp (disch := first | omega | (simp only [go_sem]; omega)) only [go_sem, seval, hgd] <;> with_reducible rfl) ?_ ?_ <;> (intro h; first | (exfalso; omega) | skip)) | (apply aL_pK cxG (hc); (iterate 2 (· simp (disch := first | omega | (simp only [go_sem]; omega)) only [go_sem, seval, hgd] <;> with_reducible rfl)); (· simp only [go_sem] <;> with_reducible rfl); (· simp)) | fail)
          all_goals try (first | exact True.intro | exact not_false | omega | (simp (disch := first | omega | (simp only [go_sem]; omega)) only [go_sem, seval] <;> omega))
          all_goals clear hc
          all_goals try (exact ⟨j + 1, by omega, Sub.of_all (by simp [Fr.get, hB, hs1]), by simp [hlj]; omega, by omega⟩)
          all_goals try (simp (disch := first | omega | (simp only [go_sem]; omega)) only [go_sem, seval])
          all_goals try simp
          all_goals try omega
        · have hj2 : j = e.length := by omega
          subst hj2
          repeat' (first | refine aC_seq ?_ | refine aC_reg rfl ?_ | refine aC_exit ?_ | refine aC_ret ?_ | refine thenQ_normal ?_ | refine thenQ_exit ?_ | refine blockQ_hit ?_ | refine aL_nil ?_ | (apply aL_step; (· exact True.intro); (iterate 2 (· simp (disch := first | omega | (simp only [go_sem]; omega)) only [go_sem, seval] <;> with_reducible rfl)); (· simp only [go_sem] <;> with_reducible rfl)) | (refine aC_condP (by simp (disch := first | omega | (simp only [go_sem]; omega)) only [go_sem, seval] <;> with_reducible rfl) ?_ ?_ <;> (intro h; first | (exfalso; omega) | skip)) | fail)
          all_goals try (first | exact True.intro | exact not_false | omega | (simp (disch := first | omega | (simp only [go_sem]; omega)) only [go_sem, seval] <;> omega))
          all_goals try (simp (disch := first | omega | (simp only [go_sem]; omega)) only [go_sem, seval])
          all_goals try simp
      all_goals first | trivial | omega
  all_goals first | trivial | omega
theorem linesL_length (s : Su) : (linesL s).length = 3 + s.d.length + s.e.length := linesA_len s _ _ (Nat.le_refl _) (Nat.le_refl _)
theorem ref_LinesA (s : Su) (hs : s.Ok) (hm : MaySu s) (nd ne : Bool) (S : St) : ACall cx 59 [.agg (suC s nd ne)] S (.sl 1 false ((linesL s).map .str) (.grow S.length)) (S ++ [.grow (linesL s).length 1 9]) := by
  have h := ref_Lines0 s hs hm nd ne
  rw [← linesL_length s] at h
  have := ACall.freshGr cxG (xs := (linesL s).map .str) (t := 9) (i := 0) h (by simp) (by simp [linesL, linesA]) (fun x hx => by obtain ⟨b, _, rfl⟩ := List.mem_map.1 hx; exact ⟨.str _, rfl⟩) (by simp [bels, bel, bels_suC]) S
  rwa [List.length_map] at this
theorem script_Lines (s : Su) (nd ne : Bool) : APure cx 25 [.agg (suC s nd ne)] (.fn (.func 60) [] [.cptr (suC s nd ne)]) := by
  have hc : ∀ x ∈ suC s nd ne, Closed x := fun x hx => clos_ok _ (bels_suC 0 s nd ne) x hx
  have h1 : AVal.okc (.agg (suC s nd ne)) := by
    intro x hx
    simp only [AVal.cells, suC, List.mem_cons, List.mem_append, List.not_mem_nil, or_false] at hx
    rcases hx with rfl | rfl | hx | rfl | rfl
    · rfl
    · rfl
    · exact (one_bl _).2 trivial x hx
    · rfl
    · rfl
  have h1' : (∀ x ∈ suC s nd ne, x.one = true) ↔ True := ⟨fun _ => trivial, fun _ => h1⟩
  generalize suC s nd ne = cs at *
  refine pure_fnK cxOk Tryz.func25 (fun _ => false) (fe25.q) (by kernel_rfl) (by dsimp only [Tryz.f25, go_sem, seval] <;> rfl) ?_
  dsimp only [Tryz.f25, frame0, List.zipIdx, List.map, Nat.reduceAdd]
  try simp only [List.getElem?_toArray, List.getElem?_cons_succ, List.getElem?_cons_zero, Option.bind_some]
  repeat' (first | (apply aL_boxI; (case hg => (simp (disch := first | omega | (simp only [go_sem]; omega)) only [go_sem, seval, h1'])); (case h => (simp (disch := first | omega | (simp only [go_sem]; omega)) only [go_sem, seval, h1'] <;> with_reducible rfl)); (case hf => (simp only [go_sem] <;> with_reducible rfl)); (case hs => (simp (disch := first | omega | (simp only [go_sem]; omega)) only [go_sem, seval, h1']))) | refine aC_seq ?_ | refine aC_reg rfl ?_ | refine aC_ret ?_ | refine thenQ_normal ?_ | refine aL_nil ?_ | (apply aL_step; (· exact True.intro); (iterate 2 (· simp (disch := first | omega | (simp only [go_sem]; omega)) only [go_sem, seval, h1'] <;> with_reducible rfl)); (· simp only [go_sem] <;> with_reducible rfl)) | fail)
  all_goals try (first | exact True.intro | exact not_false | omega | (simp (disch := first | omega | (simp only [go_sem]; omega)) only [go_sem, seval] <;> omega))
  all_goals try (simp (disch := first | omega | (simp only [go_sem]; omega)) only [go_sem, seval])
  all_goals try simp
  all_goals try exact hc
  all_goals try exact h1
theorem script_Lines1 (s : Su) (hs : s.Ok) (hm : MaySu s) (nd ne : Bool) (i n : Nat) (hi : i < n) (T : Nat → St) (T' : St) (m : Nat) (hn0 : (T 0).length = n) (hb0 : belS (n + 1) (T 0) = true) (hn' : T'.length = n) (hb' : belS n T' = true) (hmq : m ≤ (linesL s).length)
    (hy : ∀ k, k < m → AYield cx i [.str ((linesL s).getD k [])] (T k ++ [.grow (linesL s).length 1 9]) (.bool true) (T (k + 1) ++ [.grow (linesL s).length 1 9]))
    (he : (m = (linesL s).length ∧ T' = T m) ∨ (m < (linesL s).length ∧ AYield cx i [.str ((linesL s).getD m [])] (T m ++ [.grow (linesL s).length 1 9]) (.bool false) (T' ++ [.grow (linesL s).length 1 9]))) :
    ACall cx 60 [.yld i, .cptr (suC s nd ne)] (T 0) (.tup []) T' := by
  have hmay := script_MaySetup s hs.m32 nd ne
  rw [decide_eq_true hm] at hmay
  obtain ⟨⟨hg1, hg2⟩, hd, hee⟩ := hm
  obtain ⟨g, hg⟩ : ∃ g : Nat, s.g = (g : Int) := ⟨s.g.toNat, by omega⟩
  have hN := script_numbers GRAN false [g] (by simp) (by simp [GRAN]) (by simp; omega)
  have hM := script_mode s.i
  have hD := script_digest MASTER s.m (by simp [MASTER]) hs.m32
  have hDs : ∀ x ∈ s.d, APure cx 63 [.str [100, 114, 97, 119], .agg (bl x)] (.str (digT DRAW x)) := fun x hx => script_digest DRAW x (by simp [DRAW]) (hs.d32 x hx)
  have hEs : ∀ x ∈ s.e, APure cx 61 [.str [101, 110, 116, 114, 111, 112, 121], .sl 1 false [.int .u64 (x : Nat)] .any] (.str (entT x)) := fun x hx => script_numbers ENTR false [x] (by simp) (by simp [ENTR]) (by simpa using hs.ew x hx)
  have hm32 := hs.m32
  have h32 := hs.d32
  have hA0 : linesA s 0 0 = [numT GRAN [g], modeT s.i, digT MASTER s.m] := by simp [linesA, hg]
  have hAd := linesA_d s
  have hAe := linesA_e s s.d.length
  have hAl := linesA_len s
  have hlL : (linesL s).length = 3 + s.d.length + s.e.length := by unfold linesL; exact linesA_len s _ _ (Nat.le_refl _) (Nat.le_refl _)
  have hLA : linesA s s.d.length s.e.length = linesL s := rfl
  have hbs := bels_suC n s nd ne
  have key : ACall cx 60 [.yld i, .cptr (suC s nd ne)] (T 0) (.tup []) (T' ++ [.grow (linesL s).length 1 9]) := by
    generalize linesA s = A at *
    generalize hL : linesL s = L at *
    clear hL hbs
    generalize numT GRAN [g] = X1 at *
    generalize digT MASTER s.m = X3 at *
    generalize modeT s.i = X2 at *
    clear hs
    obtain ⟨g', b, mm, d, e⟩ := s
    simp only at *
    subst hg
    simp only [wl, List.map_cons, List.map_nil] at hN
    unfold GRAN at hN
    unfold MASTER at hD
    unfold suC at hmay ⊢
    simp only at hmay ⊢
    obtain ⟨T0, hT0⟩ : ∃ T0, T0 = T 0 := ⟨_, rfl⟩
    rw [← hT0] at hn0 hb0 ⊢
    refine acall_fnK cxOk Tryz.func60 (fun _ => false) (fe60.q) (by kernel_rfl) (by dsimp only [Tryz.f60, go_sem, seval] <;> rfl) ?_
    dsimp only [Tryz.f60, frame0, List.zipIdx, List.map, Nat.reduceAdd]
    try simp only [List.getElem?_toArray, List.getElem?_cons_succ, List.getElem?_cons_zero, Option.bind_some]
    repeat' (first | refine aC_seq ?_ | refine aC_reg rfl ?_ | refine aC_skip ?_ | refine thenQ_normal ?_ | refine aL_nil ?_ | (apply aL_step; (· exact True.intro); (iterate 2 (· simp (disch := first | omega | (simp only [go_sem]; omega)) only [go_sem, seval] <;> with_reducible rfl)); (· simp only [go_sem] <;> with_reducible rfl)) | (refine aC_condF ?_ ?_; (· simp (disch := first | omega | (simp only [go_sem]; omega)) only [go_sem, seval])) | (apply aL_pK cxG (hmay); (iterate 2 (· simp (disch := first | omega | (simp only [go_sem]; omega)) only [go_sem, seval] <;> with_reducible rfl)); (· simp only [go_sem] <;> with_reducible rfl); (· simp)) | fail)
    all_goals try (first | exact True.intro | exact not_false | omega | (simp (disch := first | omega | (simp only [go_sem]; omega)) only [go_sem, seval] <;> omega))
    refine aC_regB (U := [(some 19, some 17), (some 22, some 17), (some 22, some 20)]) rfl [] ?_
    repeat' (first | refine aLB_nil ?_ | (apply aLB_step; (· exact True.intro); (· exact (by intro h; cases h)); (· rfl); (· simp (disch := first | omega | (simp only [go_sem]; omega)) only [go_sem, seval]); (· simp (disch := first | omega | (simp only [go_sem]; omega)) only [go_sem, seval] <;> with_reducible rfl); (· simp only [go_sem] <;> with_reducible rfl); (· (intro b hb; first | (cases hb; done) | (simp (disch := first | omega | (simp only [go_sem]; omega)) only [loadBox, go_sem, seval] at hb; (try injection hb with hb); subst hb; simp)))) | (apply aLB_pure cxG (hN); (case hg => (simp (disch := first | omega | (simp only [go_sem]; omega)) only [go_sem, seval])); (case hx => (simp (disch := first | omega | (simp only [go_sem]; omega)) only [go_sem, seval] <;> with_reducible rfl)); (case ha => (simp (disch := first | omega | (simp only [go_sem]; omega)) only [go_sem, seval] <;> with_reducible rfl)); (case he => (simp only [go_sem] <;> with_reducible rfl)); (case hcl => (simp)); (case hf => (simp only [go_sem] <;> with_reducible rfl))) | (apply aLB_pure cxG (hM); (case hg => (simp (disch := first | omega | (simp only [go_sem]; omega)) only [go_sem, seval])); (case hx => (simp (disch := first | omega | (simp only [go_sem]; omega)) only [go_sem, seval] <;> with_reducible rfl)); (case ha => (simp (disch := first | omega | (simp only [go_sem]; omega)) only [go_sem, seval] <;> with_reducible rfl)); (case he => (simp only [go_sem] <;> with_reducible rfl)); (case hcl => (simp)); (case hf => (simp only [go_sem] <;> with_reducible rfl))) | (apply aLB_pure cxG (hD); (case hg => (simp (disch := first | omega | (simp only [go_sem]; omega)) only [go_sem, seval])); (case hx => (simp (disch := first | omega | (simp only [go_sem]; omega)) only [go_sem, seval] <;> with_reducible rfl)); (case ha => (simp (disch := first | omega | (simp only [go_sem]; omega)) only [go_sem, seval] <;> with_reducible rfl)); (case he => (simp only [go_sem] <;> with_reducible rfl)); (case hcl => (simp)); (case hf => (simp only [go_sem] <;> with_reducible rfl))) | fail)
    repeat' (first | refine aC_seq ?_ | refine aC_reg rfl ?_ | refine aC_block ?_ | refine aC_loop ?_ | refine thenQ_normal ?_ | refine aL_nil ?_ | (apply aL_step; (· exact True.intro); (iterate 2 (· simp (disch := first | omega | (simp only [go_sem]; omega)) only [go_sem, seval] <;> with_reducible rfl)); (· simp only [go_sem] <;> with_reducible rfl)) | fail)
    · clear hN hM hD hmay
      refine loop_ruleD (cxOk.wp _ _) (cxG.wp _ _) (σ := Nat) (fun k => [(28, .int .i64 k), (27, .int .i64 d.length), (26, .sl 32 nd (dgs d) .any), (3, .sl 1 false ((A k 0).map .str) (.grow n)), (1, .cptr (.int .i64 g :: .bool b :: (bl mm ++ [.sl 32 nd (dgs d) .any, .sl 1 ne (wl e) .any]))), (0, .yld i)])
        (fun k => T0 ++ [.grow (3 + k) 1 9]) (fun k => d.length - k) (fun k => k ≤ d.length) (n + 1) 0 (GStep.full 3 9 rfl) ⟨Nat.zero_le _, Sub.of_all (by simp [Fr.get, hA0, hn0]), by simp⟩ (by omega)
        (fun k _ => ⟨by simp [belS_app, hb0, belS, belB], by simp [belF, bel, bels, belT, bels_dgs, bels_str, bels_append', bels_bytes', bels_wl, Nat.blt]; omega⟩) ?_
      intro k hk
      have hlk := hAl k 0 hk (Nat.zero_le _)
      by_cases hlt : k < d.length
      · have hgd := getD_dgs d k .any hlt
        have hc := hDs _ (List.getElem_mem hlt)
        have hx32 := h32 _ (List.getElem_mem hlt)
        have hs1 := hAd k hlt
        clear hDs hEs hAd hAe hA0 hAl hy he
        generalize hB : A (k + 1) 0 = B at *
        generalize A k 0 = B0 at *
        generalize d[k] = x at *
        generalize digT DRAW x = y at *
        repeat' (first | refine aC_seq ?_ | refine aC_reg rfl ?_ | refine aC_block ?_ | refine aC_skip ?_ | refine thenQ_normal ?_ | refine blockQ_normal ?_ | refine aL_nil ?_ | (apply aL_step; (· exact True.intro); (iterate 2 (· simp (disch := first | omega | (simp only [go_sem]; omega)) only [go_sem, seval, hgd, hn0, List.append_assoc] <;> with_reducible rfl)); (· simp only [go_sem] <;> with_reducible rfl)) | (refine aC_condP (by simp (disch := first | omega | (simp only [go_sem]; omega)) only [go_sem, seval, hgd, hn0, List.append_assoc] <;> with_reducible rfl) ?_ ?_ <;> (intro h; first | (exfalso; omega) | skip)) | (apply aL_pK cxG (hc); (iterate 2 (· simp (disch := first | omega | (simp only [go_sem]; omega)) only [go_sem, seval, hgd, hn0, List.append_assoc] <;> with_reducible rfl)); (· simp only [go_sem] <;> with_reducible rfl); (· simp)) | fail)
        all_goals try (first | exact True.intro | exact not_false | omega | (simp (disch := first | omega | (simp only [go_sem]; omega)) only [go_sem, seval] <;> omega))
        all_goals clear hc
        all_goals try (exact ⟨k + 1, by omega, Sub.of_all (by simp [Fr.get, hB, hs1]), by rw [← hn0, take_app1 rfl]; simp <;> omega, by omega⟩)
        all_goals try (simp (disch := first | omega | (simp only [go_sem]; omega)) only [go_sem, seval])
        all_goals try simp
        all_goals try omega
      · have hk2 : k = d.length := by omega
        subst hk2
        repeat' (first | refine aC_seq ?_ | refine aC_reg rfl ?_ | refine aC_block ?_ | refine aC_loop ?_ | refine aC_exit ?_ | refine thenQ_normal ?_ | refine thenQ_exit ?_ | refine blockQ_hit ?_ | refine aL_nil ?_ | (apply aL_step; (· exact True.intro); (iterate 2 (· simp (disch := first | omega | (simp only [go_sem]; omega)) only [go_sem, seval, hn0] <;> with_reducible rfl)); (· simp only [go_sem] <;> with_reducible rfl)) | (refine aC_condP (by simp (disch := first | omega | (simp only [go_sem]; omega)) only [go_sem, seval, hn0] <;> with_reducible rfl) ?_ ?_ <;> (intro h; first | (exfalso; omega) | skip)) | fail)
        · refine loop_rule (cxOk.wp _ _) (σ := Nat) (fun j => [(41, .int .i64 j), (40, .int .i64 e.length), (39, .sl 1 ne (wl e) .any), (3, .sl 1 false ((A d.length j).map .str) (.grow n)), (0, .yld i)])
            (fun j => T0 ++ [.grow (3 + d.length + j) 1 9]) (fun j => e.length - j) (fun j => j ≤ e.length) 0 (GStep.refl _ _) ⟨Nat.zero_le _, Sub.of_all (by simp [Fr.get]), by simp⟩ ?_
          intro j hj
          have hlj := hAl d.length j (Nat.le_refl _) hj
          by_cases hlt : j < e.length
          · have hgd := getD_wlx e j .any hlt
            have hc := hEs _ (List.getElem_mem hlt)
            have hs1 := hAe j hlt
            clear hDs hEs hAd hAe hA0 hAl hy he
            generalize hB : A d.length (j + 1) = B at *
            generalize A d.length j = B0 at *
            generalize e[j] = x at *
            generalize entT x = y at *
            repeat' (first | refine aC_seq ?_ | refine aC_reg rfl ?_ | refine aC_block ?_ | refine aC_skip ?_ | refine thenQ_normal ?_ | refine blockQ_normal ?_ | refine aL_nil ?_ | (apply aL_step; (· exact True.intro); (iterate 2 (· simp (disch := first | omega | (simp only [go_sem]; omega)) only [go_sem, seval, hgd, hn0] <;> with_reducible rfl)); (· simp only [go_sem] <;> with_reducible rfl)) | (refine aC_condP (by simp (disch := first | omega | (simp only [go_sem]; omega)) only [go_sem, seval, hgd, hn0] <;> with_reducible rfl) ?_ ?_ <;> (intro h; first | (exfalso; omega) | skip)) | (apply aL_pK cxG (hc); (iterate 2 (· simp (disch := first | omega | (simp only [go_sem]; omega)) only [go_sem, seval, hgd, hn0] <;> with_reducible rfl)); (· simp only [go_sem] <;> with_reducible rfl); (· simp)) | fail)
            all_goals try (first | exact True.intro | exact not_false | omega | (simp (disch := first | omega | (simp only [go_sem]; omega)) only [go_sem, seval] <;> omega))
            all_goals clear hc
            all_goals try (exact ⟨j + 1, by omega, Sub.of_all (by simp [Fr.get, hB, hs1]), by simp [hlj]; omega, by omega⟩)
            all_goals try (simp (disch := first | omega | (simp only [go_sem]; omega)) only [go_sem, seval])
            all_goals try simp
            all_goals try omega
          · have hj2 : j = e.length := by omega
            subst hj2
            rw [hLA]
            clear hDs hEs hAd hAe hA0 hAl
            have hq : 3 + d.length + e.length = L.length := by omega
            rw [hq]
            repeat' (first | refine aC_seq ?_ | refine aC_reg rfl ?_ | refine aC_block ?_ | refine aC_loop ?_ | refine aC_exit ?_ | refine thenQ_normal ?_ | refine thenQ_exit ?_ | refine blockQ_hit ?_ | refine aL_nil ?_ | (apply aL_step; (· exact True.intro); (iterate 2 (· simp (disch := first | omega | (simp only [go_sem]; omega)) only [go_sem, seval, hn0] <;> with_reducible rfl)); (· simp only [go_sem] <;> with_reducible rfl)) | (refine aC_condP (by simp (disch := first | omega | (simp only [go_sem]; omega)) only [go_sem, seval, hn0] <;> with_reducible rfl) ?_ ?_ <;> (intro h; first | (exfalso; omega) | skip)) | fail)
            · refine loop_rule (cxOk.wp _ _) (σ := Nat) (fun k => [(54, .int .i64 k), (53, .int .i64 L.length), (52, .sl 1 false (L.map .str) (.grow n)), (0, .yld i)])
                (fun k => T k ++ [.grow L.length 1 9]) (fun k => L.length - k) (fun k => k ≤ m) 0 (GStep.refl _ _) ⟨Nat.zero_le _, Sub.of_all (by simp [Fr.get]), by simp [hT0]⟩ ?_
              intro k hk
              by_cases hkm : k < m
              · have hgd : (L.map AVal.str).getD k .any = .str (L.getD k []) := by
                  have : k < L.length := by omega
                  simp [List.getD, this]
                have hyk := hy k hkm
                clear hy he
                generalize L.getD k [] = x at *
                repeat' (first | refine aC_seq ?_ | refine aC_reg rfl ?_ | refine aC_block ?_ | refine aC_skip ?_ | refine thenQ_normal ?_ | refine blockQ_normal ?_ | refine aL_nil ?_ | (apply aL_step; (· exact True.intro); (iterate 2 (· simp (disch := first | omega | (simp only [go_sem]; omega)) only [go_sem, seval, hgd] <;> with_reducible rfl)); (· simp only [go_sem] <;> with_reducible rfl)) | (refine aC_condF ?_ ?_; (· simp (disch := first | omega | (simp only [go_sem]; omega)) only [go_sem, seval, hgd])) | (refine aC_condP (by simp (disch := first | omega | (simp only [go_sem]; omega)) only [go_sem, seval, hgd] <;> with_reducible rfl) ?_ ?_ <;> (intro h; first | (exfalso; omega) | skip)) | (apply aL_yield (hyk); (case hg => (simp (disch := first | omega | (simp only [go_sem]; omega)) only [go_sem, seval, hgd])); (case hx => (simp (disch := first | omega | (simp only [go_sem]; omega)) only [go_sem, seval, hgd] <;> with_reducible rfl)); (case ha => (simp (disch := first | omega | (simp only [go_sem]; omega)) only [go_sem, seval, hgd] <;> with_reducible rfl)); (case he => (with_reducible rfl)); (case hf => (simp only [go_sem] <;> with_reducible rfl))) | fail)
                all_goals try (first | exact True.intro | exact not_false | omega | (simp (disch := first | omega | (simp only [go_sem]; omega)) only [go_sem, seval] <;> omega))
                all_goals try (exact ⟨k + 1, by omega, Sub.of_all (by simp [Fr.get]), rfl, by omega⟩)
                all_goals try (simp (disch := first | omega | (simp only [go_sem]; omega)) only [go_sem, seval])
                all_goals try simp
                all_goals try omega
              · have hkm2 : k = m := by omega
                subst hkm2
                clear hy
                rcases he with ⟨rfl, rfl⟩ | ⟨hlt2, he⟩
                · repeat' (first | refine aC_seq ?_ | refine aC_reg rfl ?_ | refine aC_exit ?_ | refine thenQ_normal ?_ | refine thenQ_exit ?_ | refine blockQ_hit ?_ | refine aL_nil ?_ | (apply aL_step; (· exact True.intro); (iterate 2 (· simp (disch := first | omega | (simp only [go_sem]; omega)) only [go_sem, seval] <;> with_reducible rfl)); (· simp only [go_sem] <;> with_reducible rfl)) | (refine aC_condP (by simp (disch := first | omega | (simp only [go_sem]; omega)) only [go_sem, seval] <;> with_reducible rfl) ?_ ?_ <;> (intro h; first | (exfalso; omega) | skip)) | fail)
                  all_goals try (first | exact True.intro | exact not_false | omega | (simp (disch := first | omega | (simp only [go_sem]; omega)) only [go_sem, seval] <;> omega))
                  all_goals try (simp (disch := first | omega | (simp only [go_sem]; omega)) only [go_sem, seval])
                  all_goals try simp
                · have hgd : (L.map AVal.str).getD k .any = .str (L.getD k []) := by simp [List.getD, hlt2]
                  generalize L.getD k [] = x at *
                  repeat' (first | refine aC_seq ?_ | refine aC_reg rfl ?_ | refine aC_block ?_ | refine aC_skip ?_ | refine aC_ret ?_ | refine thenQ_normal ?_ | refine thenQ_ret ?_ | refine blockQ_ret ?_ | refine aL_nil ?_ | (apply aL_step; (· exact True.intro); (iterate 2 (· simp (disch := first | omega | (simp only [go_sem]; omega)) only [go_sem, seval, hgd] <;> with_reducible rfl)); (· simp only [go_sem] <;> with_reducible rfl)) | (refine aC_condT ?_ ?_; (· simp (disch := first | omega | (simp only [go_sem]; omega)) only [go_sem, seval, hgd])) | (refine aC_condP (by simp (disch := first | omega | (simp only [go_sem]; omega)) only [go_sem, seval, hgd] <;> with_reducible rfl) ?_ ?_ <;> (intro h; first | (exfalso; omega) | skip)) | (apply aL_yield (he); (case hg => (simp (disch := first | omega | (simp only [go_sem]; omega)) only [go_sem, seval, hgd])); (case hx => (simp (disch := first | omega | (simp only [go_sem]; omega)) only [go_sem, seval, hgd] <;> with_reducible rfl)); (case ha => (simp (disch := first | omega | (simp only [go_sem]; omega)) only [go_sem, seval, hgd] <;> with_reducible rfl)); (case he => (with_reducible rfl)); (case hf => (simp only [go_sem] <;> with_reducible rfl))) | fail)
                  all_goals try (first | exact True.intro | exact not_false | omega | (simp (disch := first | omega | (simp only [go_sem]; omega)) only [go_sem, seval] <;> omega))
                  all_goals try (simp (disch := first | omega | (simp only [go_sem]; omega)) only [go_sem, seval])
                  all_goals try simp
            all_goals first | trivial | omega
        all_goals first | trivial | omega
    all_goals first | trivial | omega
  have e : (T' ++ [ABox.grow (linesL s).length 1 9]).take n = T' := by rw [← hn']; simp
  have q := ACall.drop cxG key (n := n) (by rw [hn0]; exact Nat.le_refl _) (by rfl) (by rw [e]; exact hb')
  rwa [e] at q
end
end Go.Am
