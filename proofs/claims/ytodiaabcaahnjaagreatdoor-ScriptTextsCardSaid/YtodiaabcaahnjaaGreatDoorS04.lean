/- Steps (chapter 25): their lines: script's and the document's. -/
import Derived.Test.YtodiaabcaahnjaaGreatDoorS02
set_option linter.unusedVariables false
set_option linter.unusedSimpArgs false
namespace Go.Am
open Go Go.Proofs
set_option maxHeartbeats 8000000
set_option maxRecDepth 100000
section
attribute [local irreducible] aC aL thenQ blockQ scopeQ ALoop AWp
def VERIFY : List UInt8 := [118, 101, 114, 105, 102, 121]
def lineS (s : Sp) : List UInt8 :=
  if s.k = 1 then ctx s.op s.xs else if s.k = 2 then numT [108, 111, 97, 100] [s.a] else if s.k = 3 then numT [115, 116, 111, 114, 101] [s.a, s.w]
  else if s.b = [] then VERIFY else VERIFY ++ 32 :: hexl s.b
theorem a_trim (s : List UInt8) (hs : s.length ≤ 9223372036854775807) : APure cx 74 [.str s, .str [32]] (.str (Lib.trimSuffix s [32])) :=
  apure_shelf (vs := [.string ⟨s.toArray⟩, .string ⟨[32].toArray⟩]) (callable_of Tryz.func74 (by kernel_rfl) (by kernel_rfl)) rfl fun w im0 hG => by
    have hz : (⟨s.toArray⟩ : ByteArray).size = s.length := rfl
    refine (Tryz.strings_TrimSuffix ⟨s.toArray⟩ ⟨[32].toArray⟩ w (by omega)).mono fun e w' h => ?_
    obtain ⟨rfl, rfl⟩ := h
    exact ⟨_, rfl, grown_same _, .str _ _ rfl⟩
theorem hexd_ne (k : Nat) (h : k < 16) : hexd k ≠ 32 := by
  have : ((List.range 16).all fun k => hexd k != 32) = true := by decide
  simpa using List.all_eq_true.1 this k (List.mem_range.2 h)
theorem hexl_ne : ∀ (l : List UInt8), ∀ x ∈ hexl l, x ≠ 32
  | [], x, h => by cases h
  | b :: l, x, h => by
    have hb := b.toNat_lt
    simp only [hexl, List.mem_cons] at h
    rcases h with rfl | rfl | h
    · exact hexd_ne _ (by omega)
    · exact hexd_ne _ (by omega)
    · exact hexl_ne l x h
theorem trim_verify (b : List UInt8) : Lib.trimSuffix (VERIFY ++ 32 :: hexl b) [32] = if b = [] then VERIFY else VERIFY ++ 32 :: hexl b := by
  by_cases hb : b = []
  · subst hb; rfl
  · rw [if_neg hb]
    unfold Lib.trimSuffix
    rw [if_neg]
    intro h
    have h2 : [32] <:+ VERIFY ++ 32 :: hexl b := by simpa [Lib.hasSuffix, List.isSuffixOf_iff_suffix] using h
    have hl := hexl_length b
    have hp : 0 < b.length := List.length_pos_iff.2 hb
    obtain ⟨l, x, hlx⟩ : ∃ l x, hexl b = l ++ [x] := by
      rcases List.eq_nil_or_concat (hexl b) with h | ⟨l, x, h⟩
      · rw [h] at hl; simp at hl; omega
      · exact ⟨l, x, by simpa using h⟩
    have hx := hexl_ne b x (by rw [hlx]; simp)
    obtain ⟨u, hu⟩ := h2
    rw [hlx] at hu
    have h3 : u ++ [32] = (VERIFY ++ 32 :: l) ++ [x] := by simpa using hu
    have := (List.append_inj' h3 rfl).2
    injection this with this
    exact hx this.symm
theorem script_line (s : Sp) (hs : s.Ok) (hm : s.k = 1 → MayC s.op s.xs) (nl : Bool) : APure cx 34 [.agg (spC s nl .any)] (.str (lineS s)) := by
  obtain ⟨hx6, hxw, haw, hww, hbl⟩ := hs
  have hct := call_Text s.op s.xs hx6 hxw
  have hn1 := script_numbers [108, 111, 97, 100] false [s.a] (by simp) (by simp) (by simpa using haw)
  have hn2 := script_numbers [115, 116, 111, 114, 101] false [s.a, s.w] (by simp) (by simp) (by simpa using ⟨haw, hww⟩)
  have hh := wire_hex nl s.b (by omega)
  have hhl := hexl_length s.b
  have htr := a_trim (VERIFY ++ 32 :: hexl s.b) (by simp [VERIFY]; omega)
  rw [trim_verify] at htr
  obtain ⟨k, op, xs, a, w, b⟩ := s
  obtain ⟨x0, x1, x2, x3, x4, x5, rfl⟩ := six hx6
  unfold lineS
  simp only [spC_six, wl_six] at *
  simp only [wl, List.map_cons, List.map_nil] at hn1 hn2
  by_cases h1 : k = 1
  case' pos =>
    subst h1
    rw [if_pos (hm rfl)] at hct
    simp only [↓reduceIte]
    clear hm
    generalize ctx op [x0, x1, x2, x3, x4, x5] = X at *
  case' neg =>
    rw [if_neg h1]
    by_cases h2 : k = 2
    case' pos =>
      subst h2
      simp only [↓reduceIte]
      generalize numT [108, 111, 97, 100] [a] = X at *
    case' neg =>
      rw [if_neg h2]
      by_cases h3 : k = 3
      case' pos =>
        subst h3
        simp only [↓reduceIte]
        generalize numT [115, 116, 111, 114, 101] [a, w] = X at *
      case' neg =>
        rw [if_neg h3]
        generalize (if b = [] then VERIFY else VERIFY ++ 32 :: hexl b) = X at *
        generalize hexl b = Y at *
        unfold VERIFY at *
        simp only [List.cons_append, List.nil_append] at htr
  all_goals
  refine pure_fnK cxOk Tryz.func34 (fun _ => false) (fe34.q) (by kernel_rfl) (by dsimp only [Tryz.f34, go_sem, seval] <;> rfl) ?_
  dsimp only [Tryz.f34, frame0, List.zipIdx, List.map, Nat.reduceAdd]
  try simp only [List.getElem?_toArray, List.getElem?_cons_succ, List.getElem?_cons_zero, Option.bind_some]
  repeat' (first | (apply aL_boxI; (case hg => (simp (disch := omega) only [go_sem, seval, eq_self_iff_true, decide_true, List.cons_append, List.nil_append])); (case h => (simp (disch := omega) only [go_sem, seval, eq_self_iff_true, decide_true, List.cons_append, List.nil_append] <;> with_reducible rfl)); (case hf => (simp only [go_sem] <;> with_reducible rfl)); (case hs => (simp (disch := omega) only [go_sem, seval, eq_self_iff_true, decide_true, List.cons_append, List.nil_append]))) | refine aC_seq ?_ | refine aC_reg rfl ?_ | refine aC_block ?_ | refine aC_skip ?_ | refine aC_ret ?_ | refine thenQ_normal ?_ | refine blockQ_normal ?_ | refine thenQ_ret ?_ | refine blockQ_ret ?_ | refine aL_nil ?_ | (apply aL_step; (· exact True.intro); (iterate 2 (· simp (disch := omega) only [go_sem, seval, eq_self_iff_true, decide_true, List.cons_append, List.nil_append] <;> with_reducible rfl)); (· simp only [go_sem] <;> with_reducible rfl)) | (refine aC_condT ?_ ?_; (· simp (disch := omega) only [go_sem, seval, eq_self_iff_true, decide_true, List.cons_append, List.nil_append])) | (refine aC_condF ?_ ?_; (· simp (disch := omega) only [go_sem, seval, eq_self_iff_true, decide_true, List.cons_append, List.nil_append])) | (refine aC_condP (by simp (disch := omega) only [go_sem, seval, eq_self_iff_true, decide_true, List.cons_append, List.nil_append] <;> with_reducible rfl) ?_ ?_ <;> (intro h; first | (exfalso; omega) | skip)) | (apply aL_pK cxG (hct); (iterate 2 (· simp (disch := omega) only [go_sem, seval, eq_self_iff_true, decide_true, List.cons_append, List.nil_append] <;> with_reducible rfl)); (· simp only [go_sem] <;> with_reducible rfl); (· simp)) | (apply aL_pK cxG (hn1); (iterate 2 (· simp (disch := omega) only [go_sem, seval, eq_self_iff_true, decide_true, List.cons_append, List.nil_append] <;> with_reducible rfl)); (· simp only [go_sem] <;> with_reducible rfl); (· simp)) | (apply aL_pK cxG (hn2); (iterate 2 (· simp (disch := omega) only [go_sem, seval, eq_self_iff_true, decide_true, List.cons_append, List.nil_append] <;> with_reducible rfl)); (· simp only [go_sem] <;> with_reducible rfl); (· simp)) | (apply aL_pK cxG (hh); (iterate 2 (· simp (disch := omega) only [go_sem, seval, eq_self_iff_true, decide_true, List.cons_append, List.nil_append] <;> with_reducible rfl)); (· simp only [go_sem] <;> with_reducible rfl); (· simp)) | (apply aL_pK cxG (htr); (iterate 2 (· simp (disch := omega) only [go_sem, seval, eq_self_iff_true, decide_true, List.cons_append, List.nil_append] <;> with_reducible rfl)); (· simp only [go_sem] <;> with_reducible rfl); (· simp)) | fail)
  all_goals try (first | exact True.intro | exact not_false | omega | (simp (disch := omega) only [go_sem, seval] <;> omega))
  all_goals clear hct hn1 hn2 hh htr
  all_goals try (simp (disch := omega) only [go_sem, seval])
  all_goals try simp
theorem ref_Line (s : Sp) (hs : s.Ok) (hm : s.k = 1 → MayC s.op s.xs) (nl : Bool) : APure cx 39 [.agg (spC s nl .any)] (.str (lineS s)) := by
  obtain ⟨hx6, hxw, haw, hww, hbl⟩ := hs
  have hct : s.k = 1 → APure cx 80 [.agg (.int .i64 s.op :: wl s.xs)] (.str (ctx s.op s.xs)) := fun h => ref_Text s.op s.xs hx6 hxw (hm h).1
  have hn1 := ref_n [108, 111, 97, 100] false [s.a] (by simp) (by simp) (by simpa using haw)
  have hn2 := ref_n [115, 116, 111, 114, 101] false [s.a, s.w] (by simp) (by simp) (by simpa using ⟨haw, hww⟩)
  have hh := ref_hex nl s.b (by omega)
  have hhl := hexl_length s.b
  obtain ⟨k, op, xs, a, w, b⟩ := s
  obtain ⟨x0, x1, x2, x3, x4, x5, rfl⟩ := six hx6
  unfold lineS
  simp only [spC_six, wl_six] at *
  simp only [wl, List.map_cons, List.map_nil] at hn1 hn2
  by_cases h1 : k = 1
  case' pos =>
    subst h1
    have hct := hct rfl
    simp only [↓reduceIte]
    clear hm
    generalize ctx op [x0, x1, x2, x3, x4, x5] = X at *
  case' neg =>
    rw [if_neg h1]
    by_cases h2 : k = 2
    case' pos =>
      subst h2
      simp only [↓reduceIte]
      generalize numT [108, 111, 97, 100] [a] = X at *
    case' neg =>
      rw [if_neg h2]
      by_cases h3 : k = 3
      case' pos =>
        subst h3
        simp only [↓reduceIte]
        generalize numT [115, 116, 111, 114, 101] [a, w] = X at *
      case' neg =>
        rw [if_neg h3]
        by_cases h4 : b = []
        case' pos => subst h4
        case' neg =>
          rw [if_neg h4]
          have hpos : 0 < b.length := List.length_pos_iff.2 h4
          generalize hexl b = Y at *
        all_goals unfold VERIFY
        all_goals simp only [List.cons_append, List.nil_append, ↓reduceIte]
  all_goals
  refine pure_fnK cxOk Tryz.func39 (fun _ => false) (fe39.q) (by kernel_rfl) (by dsimp only [Tryz.f39, go_sem, seval] <;> rfl) ?_
  dsimp only [Tryz.f39, frame0, List.zipIdx, List.map, Nat.reduceAdd]
  try simp only [List.getElem?_toArray, List.getElem?_cons_succ, List.getElem?_cons_zero, Option.bind_some]
  repeat' (first | (apply aL_boxI; (case hg => (simp (disch := omega) only [go_sem, seval, eq_self_iff_true, decide_true, List.cons_append, List.nil_append])); (case h => (simp (disch := omega) only [go_sem, seval, eq_self_iff_true, decide_true, List.cons_append, List.nil_append] <;> with_reducible rfl)); (case hf => (simp only [go_sem] <;> with_reducible rfl)); (case hs => (simp (disch := omega) only [go_sem, seval, eq_self_iff_true, decide_true, List.cons_append, List.nil_append]))) | refine aC_seq ?_ | refine aC_reg rfl ?_ | refine aC_block ?_ | refine aC_skip ?_ | refine aC_ret ?_ | refine thenQ_normal ?_ | refine blockQ_normal ?_ | refine thenQ_ret ?_ | refine blockQ_ret ?_ | refine aL_nil ?_ | (apply aL_step; (· exact True.intro); (iterate 2 (· simp (disch := omega) only [go_sem, seval, eq_self_iff_true, decide_true, List.cons_append, List.nil_append] <;> with_reducible rfl)); (· simp only [go_sem] <;> with_reducible rfl)) | (refine aC_condT ?_ ?_; (· simp (disch := omega) only [go_sem, seval, eq_self_iff_true, decide_true, List.cons_append, List.nil_append])) | (refine aC_condF ?_ ?_; (· simp (disch := omega) only [go_sem, seval, eq_self_iff_true, decide_true, List.cons_append, List.nil_append])) | (refine aC_condP (by simp (disch := omega) only [go_sem, seval, eq_self_iff_true, decide_true, List.cons_append, List.nil_append] <;> with_reducible rfl) ?_ ?_ <;> (intro h; first | (exfalso; omega) | skip)) | (apply aL_pK cxG (hct); (iterate 2 (· simp (disch := omega) only [go_sem, seval, eq_self_iff_true, decide_true, List.cons_append, List.nil_append] <;> with_reducible rfl)); (· simp only [go_sem] <;> with_reducible rfl); (· simp)) | (apply aL_pK cxG (hn1); (iterate 2 (· simp (disch := omega) only [go_sem, seval, eq_self_iff_true, decide_true, List.cons_append, List.nil_append] <;> with_reducible rfl)); (· simp only [go_sem] <;> with_reducible rfl); (· simp)) | (apply aL_pK cxG (hn2); (iterate 2 (· simp (disch := omega) only [go_sem, seval, eq_self_iff_true, decide_true, List.cons_append, List.nil_append] <;> with_reducible rfl)); (· simp only [go_sem] <;> with_reducible rfl); (· simp)) | (apply aL_pK cxG (hh); (iterate 2 (· simp (disch := omega) only [go_sem, seval, eq_self_iff_true, decide_true, List.cons_append, List.nil_append] <;> with_reducible rfl)); (· simp only [go_sem] <;> with_reducible rfl); (· simp)) | fail)
  all_goals try (first | exact True.intro | exact not_false | omega | (simp (disch := omega) only [go_sem, seval] <;> omega))
  all_goals clear hct hn1 hn2 hh
  all_goals try (simp (disch := omega) only [go_sem, seval])
  all_goals try simp
end
end Go.Am
