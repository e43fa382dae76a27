/- Numbers, and the parts of a text: cpu.number; strings.Split, strings.TrimPrefix (the shelf's). -/
import Derived.Test.YtbkfnbnechpolaaDoorC19
import Derived.Test.YtbkfnbnechpolaaDoorTrydSq
import Derived.Lib.SplitLaws
set_option linter.unusedVariables false
set_option linter.unusedSimpArgs false
namespace Go.Am
open Go Go.Proofs
set_option linter.unusedSimpArgs false
set_option linter.unusedVariables false
set_option maxHeartbeats 4000000
set_option maxRecDepth 100000
attribute [local irreducible] aC aL thenQ blockQ scopeQ ALoop AWp

theorem grown_bytes (w : World) (e : TypeId) (s : ByteArray) : w.grownBy (Lib.bytesWorld w e s) none := by
  unfold Lib.bytesWorld World.freeze
  rw [if_neg (by decide)]
  refine ⟨rfl, rfl, rfl, ?_, fun k hk _ => ?_⟩
  · show _ ≤ (Array.modify (w.heap.push _) _ _).size
    rw [Array.size_modify, Array.size_push]
    omega
  · show (Array.modify (w.heap.push _) w.heap.size _)[k]? = _
    rw [Array.getElem?_modify, if_neg (by omega), Array.getElem?_push_lt hk, Array.getElem?_eq_getElem hk]

/-- A text's number; of none 0. -/
def numP (s : List UInt8) : Int := match Lib.parseIntB 32 s with
  | .ok v => v
  | _ => 0

theorem a_parse (s : List UInt8) (hs : s.length ≤ 20000) : (APure cx 64 [.str s, .int .i64 10, .int .i64 32] (.tup [.int .i64 (numP s), .nilifc])) ∨
    (numP s = 0 ∧ ∃ n t, APure cx 64 [.str s, .int .i64 10, .int .i64 32] (.tup [.int .i64 n, .ifc t .any])) := by
  have hz : (⟨s.toArray⟩ : ByteArray).size = s.length := rfl
  have hl : (⟨s.toArray⟩ : ByteArray).data.toList = s := rfl
  have hcall : ∃ fn, cx.P.funcs[64]? = some fn ∧ fn.body.isSome = true ∧ (fn.name == "runtime.NumGoroutine") = false := callable_of Tryd.func64 (by kernel_rfl) (by kernel_rfl)
  rcases hh : Lib.parseIntB 32 s with v | _ | _
  · refine .inl (apure_shelf (vs := [.string ⟨s.toArray⟩, .int .i64 10, .int .i64 32]) hcall rfl fun w im0 hG => ?_)
    refine (Tryd.strconv_ParseInt_10_at32_ok ⟨s.toArray⟩ (by omega) v hh w).mono fun e w' h => ?_
    obtain ⟨rfl, h⟩ := h
    refine ⟨_, rfl, ?_, R.tup2 ?_ .nilifc⟩
    · rcases h with rfl | ⟨t, rfl⟩
      · exact grown_same _
      · exact grown_bytes _ _ _
    · have e : numP s = v := by unfold numP; rw [hh]
      rw [e]
      exact .int _ _
  · refine .inr ⟨by unfold numP; rw [hh], 0, 132, apure_shelf (vs := [.string ⟨s.toArray⟩, .int .i64 10, .int .i64 32]) hcall rfl fun w im0 hG => ?_⟩
    · obtain ⟨x, hx1, hx2⟩ := GL.iface (E := env0 w im0) (hG 2 _ rfl)
      refine (Any.strconv_ParseInt_10_at32_syntax Tryd.laysC174 ⟨s.toArray⟩ (by omega) hh x w hx1 hx2).mono fun e w' h => ?_
      obtain ⟨N, rfl, h1, h2, h3⟩ := h
      exact ⟨_, rfl, grown_below h3, R.tup2 (.int _ _) (.ifc _ _ _ (.any _))⟩
  · refine .inr ⟨by unfold numP; rw [hh], Lib.intSat 32 s, 132, apure_shelf (vs := [.string ⟨s.toArray⟩, .int .i64 10, .int .i64 32]) hcall rfl fun w im0 hG => ?_⟩
    · obtain ⟨x, hx1, hx2⟩ := GL.iface (E := env0 w im0) (hG 3 _ rfl)
      refine (Any.strconv_ParseInt_10_at32_range Tryd.laysC174 ⟨s.toArray⟩ (by omega) hh x w hx1 hx2).mono fun e w' h => ?_
      obtain ⟨N, rfl, h1, h2, h3⟩ := h
      exact ⟨_, rfl, grown_below h3, R.tup2 (.int _ _) (.ifc _ _ _ (.any _))⟩

theorem cpu_number (s : List UInt8) (hs : s.length ≤ 20000) : APure cx 47 [.str s] (.int .i64 (numP s)) := by
  rcases a_parse s hs with h | ⟨h0, n, t, h⟩
  case' inl => have h0 : True := trivial
  case' inr => rw [h0]
  all_goals
  refine pure_fn cxOk Tryd.func47 (by kernel_rfl) (fun _ => false) (fun _ => none) (by kernel_rfl) (Nat.le_of_ble_eq_true (by kernel_rfl)) ?_
  dsimp only [LB, Tryd.f47, lite, nextOf, Option.isNone, Bool.not_true, Bool.not_false, Bool.and_true, Bool.true_and, Bool.false_and, Bool.and_self, Bool.false_eq_true, if_false, if_true, ↓reduceIte, liteO, List.map, Option.map, frame0, List.zipIdx, Nat.reduceAdd]
  try simp only [List.getElem?_toArray, List.getElem?_cons_succ, List.getElem?_cons_zero, Option.bind_some]
  repeat' (first
    | refine aC_seq ?_
    | refine aC_reg rfl ?_
    | refine aC_block ?_
    | refine aC_skip ?_
    | refine aC_loop ?_
    | refine aC_scope ?_
    | refine scopeQ_normal ?_
    | refine scopeQ_exit ?_
    | refine scopeQ_ret ?_
    | refine aC_exit ?_
    | refine aC_ret ?_
    | refine thenQ_normal ?_
    | refine blockQ_normal ?_
    | refine thenQ_ret ?_
    | refine blockQ_ret ?_
    | refine thenQ_exit ?_
    | refine blockQ_hit ?_
    | refine blockQ_miss rfl ?_
    | refine aL_nil ?_
    | (apply aL_step; (· exact True.intro); (· simp (disch := first | omega | (simp only [go_sem]; omega)) only [go_sem, get_miss, seval, reduceCtorEq]); (· simp (disch := first | omega | (simp only [go_sem]; omega)) only [go_sem, get_miss, seval, reduceCtorEq] <;> with_reducible rfl); (· simp only [go_sem] <;> with_reducible rfl))
    | (refine aL_skip ?_ (by simp only [go_sem] <;> with_reducible rfl) ?_; (· simp (disch := first | omega | (simp only [go_sem]; omega)) only [go_sem, get_miss, seval, reduceCtorEq]))
    | (apply aL_guardN; (· simp (disch := first | omega | (simp only [go_sem]; omega)) only [go_sem, get_miss, seval, reduceCtorEq] <;> with_reducible rfl); all_goals (intro h; first | (exfalso; omega) | (simp only [h, decide_true, decide_false, not_true, not_false_iff])))
    | (apply aL_guardP; (· simp (disch := first | omega | (simp only [go_sem]; omega)) only [go_sem, get_miss, seval, reduceCtorEq] <;> with_reducible rfl); all_goals (intro h; first | (exfalso; omega) | (simp only [h, decide_true, decide_false, not_true, not_false_iff])))
    | (refine aC_condT ?_ ?_; (· simp (disch := first | omega | (simp only [go_sem]; omega)) only [go_sem, get_miss, seval, reduceCtorEq]))
    | (refine aC_condF ?_ ?_; (· simp (disch := first | omega | (simp only [go_sem]; omega)) only [go_sem, get_miss, seval, reduceCtorEq]))
    | (refine aC_condP (by simp (disch := first | omega | (simp only [go_sem]; omega)) only [go_sem, get_miss, seval, reduceCtorEq] <;> with_reducible rfl) ?_ ?_ <;> (intro h; first | (exfalso; omega) | skip))
    | (apply aL_pure cxG (h); (case hg => (simp (disch := first | omega | (simp only [go_sem]; omega)) only [go_sem, get_miss, seval, reduceCtorEq])); (case hx => (simp (disch := first | omega | (simp only [go_sem]; omega)) only [go_sem, get_miss, seval, reduceCtorEq] <;> with_reducible rfl)); (case ha => (simp (disch := first | omega | (simp only [go_sem]; omega)) only [go_sem, get_miss, seval, reduceCtorEq] <;> with_reducible rfl)); (case he => (simp only [go_sem] <;> with_reducible rfl)); (case hcl => (simp)); (case hf => (simp only [go_sem] <;> with_reducible rfl)))
    | fail)
  all_goals try (first | exact True.intro | omega)
  all_goals try (simp (disch := first | omega | (simp only [go_sem]; omega)) only [go_sem, get_miss, seval, reduceCtorEq] <;> first | exact True.intro | omega)
  all_goals (clear h h0)
  all_goals try (simp (disch := first | omega | (simp only [go_sem]; omega)) only [go_sem, get_miss, seval, reduceCtorEq])
  all_goals try simp

theorem a_trim (s p : List UInt8) : APure cx 48 [.str s, .str p] (.str (Lib.trimPrefix s p)) :=
  apure_shelf (vs := [.string ⟨s.toArray⟩, .string ⟨p.toArray⟩]) (callable_of Tryd.func48 (by kernel_rfl) (by kernel_rfl)) rfl fun w im0 hG => by
    refine (Tryd.strings_TrimPrefix ⟨s.toArray⟩ ⟨p.toArray⟩ w).mono fun e w' h => ?_
    obtain ⟨rfl, rfl⟩ := h
    exact ⟨_, rfl, grown_same _, .str _ _ rfl⟩

/-- A text's parts, between separators. -/
def parts (s p : List UInt8) : List (List UInt8) := (Lib.splitB ⟨p.toArray⟩ 0 (Lib.countB ⟨s.toArray⟩ ⟨p.toArray⟩) ⟨s.toArray⟩).map fun b => b.data.toList

theorem a_split (s p : List UInt8) (hs : s.length ≤ 4294967280) (hp : 1 ≤ p.length) : APure cx 45 [.str s, .str p] (.sl 1 false ((parts s p).map .str) .full) :=
  apure_shelf (vs := [.string ⟨s.toArray⟩, .string ⟨p.toArray⟩]) (callable_of Tryd.func45 (by kernel_rfl) (by kernel_rfl)) rfl fun w im0 hG => by
    obtain ⟨m, hm⟩ := GL.int (E := env0 w im0) (hG 1 _ rfl)
    have hz : (⟨s.toArray⟩ : ByteArray).size = s.length := rfl
    have hzp : (⟨p.toArray⟩ : ByteArray).size = p.length := rfl
    refine (Tryd.strings_Split ⟨s.toArray⟩ ⟨p.toArray⟩ m w (by omega) hm (by omega)).mono fun e w' h => ?_
    obtain ⟨rfl, rfl⟩ := h
    have hlen := Lib.splitB_all ⟨p.toArray⟩ (by omega) 0 _ ⟨s.toArray⟩ rfl
    have hle := Lib.countB_le ⟨p.toArray⟩ (by omega) _ ⟨s.toArray⟩ (Nat.le_refl _)
    have hml : maxLen = 9223372036854775807 := rfl
    refine ⟨_, rfl, grown_alloc _ _, ?_⟩
    unfold parts
    generalize Lib.splitB ⟨p.toArray⟩ 0 (Lib.countB ⟨s.toArray⟩ ⟨p.toArray⟩) ⟨s.toArray⟩ = l at hlen ⊢
    rw [← hlen]
    have := r_sl_alloc (w := w) (im0 := im0) (t := 9) (xs := (l.map fun b => b.data.toList).map .str) (vs := l.map Value.string) (by simp) (by simp; omega) (by simp [AVal.cells]) (fun j h h' => by
      simp only [List.getElem_map]
      exact ⟨.str _ _ rfl, rfl⟩)
    simpa using this
end Go.Am
