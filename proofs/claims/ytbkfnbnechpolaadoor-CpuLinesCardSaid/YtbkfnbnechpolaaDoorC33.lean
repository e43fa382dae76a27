/- cpu.Listing. -/
import Derived.Test.YtbkfnbnechpolaaDoorC31
import Derived.Test.YtbkfnbnechpolaaDoorC19
import Derived.Test.YtbkfnbnechpolaaDoorC22
import Derived.Test.YtbkfnbnechpolaaDoorC25
section
set_option linter.unusedVariables false
set_option linter.unusedSimpArgs false
namespace Go.Am
open Go Go.Proofs
set_option linter.unusedSimpArgs false
set_option linter.unusedVariables false
set_option maxHeartbeats 8000000
set_option maxRecDepth 100000
attribute [local irreducible] aC aL thenQ blockQ scopeQ ALoop AWp

/-- Words as values. -/
def wl (ws : List Nat) : List AVal := ws.map fun (w : Nat) => .int .u64 ((w : Nat) : Int)
theorem bels_bytes (n : Nat) (l : List UInt8) : bels n (bl l) = true := bels_iff.2 fun x hx => by obtain ⟨b, _, rfl⟩ := List.mem_map.1 hx; rfl
@[simp] theorem length_wl (ws : List Nat) : (wl ws).length = ws.length := by simp [wl]
theorem getD_wl (ws : List Nat) (n : Nat) (d : AVal) (h : n < ws.length) : (wl ws).getD n d = .int .u64 ((ws.getD n 0 : Nat) : Int) := by simp [wl, List.getD, h]
@[simp] theorem closed_wl (ws : List Nat) : (∀ x ∈ wl ws, Closed x) ↔ True := ⟨fun _ => trivial, fun _ x hx => by obtain ⟨b, _, rfl⟩ := List.mem_map.1 hx; simp⟩
theorem nil_wl : wl [] = [] := rfl
theorem bels_wl (n : Nat) (ws : List Nat) : bels n (wl ws) = true := bels_iff.2 fun x hx => by obtain ⟨b, _, rfl⟩ := List.mem_map.1 hx; rfl
attribute [go_sem] length_wl getD_wl

theorem clone_words (nl : Bool) (ws : List Nat) (hl : ws.length ≤ 1048576) (hn : nl = true → ws = []) : APure cx 42 [.sl 1 nl (wl ws) .any] (.sl 1 nl (wl ws) .any) := by
  cases nl with
  | true =>
    have hn := hn rfl
    subst hn
    refine pure_fn cxOk Tryd.func42 (by kernel_rfl) (fun _ => false) (fun _ => none) (by kernel_rfl) (Nat.le_of_ble_eq_true (by kernel_rfl)) ?_
    dsimp only [LB, Tryd.f42, lite, nextOf, Option.isNone, Bool.not_true, Bool.not_false, Bool.and_true, Bool.true_and, Bool.false_and, Bool.and_self, Bool.false_eq_true, if_false, if_true, ↓reduceIte, liteO, List.map, Option.map, frame0, List.zipIdx, Nat.reduceAdd]
    try simp only [List.getElem?_toArray, List.getElem?_cons_succ, List.getElem?_cons_zero, Option.bind_some]
    repeat' (first
      | refine aC_seq ?_
      | refine aC_reg rfl ?_
      | refine aC_block ?_
      | refine aC_skip ?_
      | refine aC_loop ?_
      | refine aC_scope ?_
      | refine scopeQ_normal ?_
      | refine scopeQ_exit ?_
      | refine scopeQ_ret ?_
      | refine aC_exit ?_
      | refine aC_ret ?_
      | refine thenQ_normal ?_
      | refine blockQ_normal ?_
      | refine thenQ_ret ?_
      | refine blockQ_ret ?_
      | refine thenQ_exit ?_
      | refine blockQ_hit ?_
      | refine blockQ_miss rfl ?_
      | refine aL_nil ?_
      | (apply aL_step; (· exact True.intro); (· simp (disch := first | omega | (simp only [go_sem]; omega)) only [go_sem, get_miss, seval, reduceCtorEq]); (· simp (disch := first | omega | (simp only [go_sem]; omega)) only [go_sem, get_miss, seval, reduceCtorEq] <;> with_reducible rfl); (· simp only [go_sem] <;> with_reducible rfl))
      | (refine aL_skip ?_ (by simp only [go_sem] <;> with_reducible rfl) ?_; (· simp (disch := first | omega | (simp only [go_sem]; omega)) only [go_sem, get_miss, seval, reduceCtorEq]))
      | (apply aL_guardN; (· simp (disch := first | omega | (simp only [go_sem]; omega)) only [go_sem, get_miss, seval, reduceCtorEq] <;> with_reducible rfl); all_goals (intro h; first | (exfalso; omega) | (simp only [h, decide_true, decide_false, not_true, not_false_iff])))
      | (apply aL_guardP; (· simp (disch := first | omega | (simp only [go_sem]; omega)) only [go_sem, get_miss, seval, reduceCtorEq] <;> with_reducible rfl); all_goals (intro h; first | (exfalso; omega) | (simp only [h, decide_true, decide_false, not_true, not_false_iff])))
      | (refine aC_condT ?_ ?_; (· simp (disch := first | omega | (simp only [go_sem]; omega)) only [go_sem, get_miss, seval, reduceCtorEq]))
      | (refine aC_condF ?_ ?_; (· simp (disch := first | omega | (simp only [go_sem]; omega)) only [go_sem, get_miss, seval, reduceCtorEq]))
      | (refine aC_condP (by simp (disch := first | omega | (simp only [go_sem]; omega)) only [go_sem, get_miss, seval, reduceCtorEq] <;> with_reducible rfl) ?_ ?_ <;> (intro h; first | (exfalso; omega) | skip))
      | fail)
    all_goals try (first | exact True.intro | omega)
    all_goals try (simp (disch := first | omega | (simp only [go_sem]; omega)) only [go_sem, get_miss, seval, reduceCtorEq] <;> first | exact True.intro | omega)
    all_goals (simp (disch := first | omega | (simp only [go_sem]; omega)) only [go_sem, get_miss, seval, reduceCtorEq])
    all_goals simp [wl]
  | false =>
    refine pure_fn cxOk Tryd.func42 (by kernel_rfl) (fun _ => false) (fun _ => none) (by kernel_rfl) (Nat.le_of_ble_eq_true (by kernel_rfl)) ?_
    dsimp only [LB, Tryd.f42, lite, nextOf, Option.isNone, Bool.not_true, Bool.not_false, Bool.and_true, Bool.true_and, Bool.false_and, Bool.and_self, Bool.false_eq_true, if_false, if_true, ↓reduceIte, liteO, List.map, Option.map, frame0, List.zipIdx, Nat.reduceAdd]
    try simp only [List.getElem?_toArray, List.getElem?_cons_succ, List.getElem?_cons_zero, Option.bind_some]
    repeat' (first
      | refine aC_seq ?_
      | refine aC_reg rfl ?_
      | refine aC_block ?_
      | refine aC_skip ?_
      | refine aC_loop ?_
      | refine aC_scope ?_
      | refine scopeQ_normal ?_
      | refine scopeQ_exit ?_
      | refine scopeQ_ret ?_
      | refine aC_exit ?_
      | refine aC_ret ?_
      | refine thenQ_normal ?_
      | refine blockQ_normal ?_
      | refine thenQ_ret ?_
      | refine blockQ_ret ?_
      | refine thenQ_exit ?_
      | refine blockQ_hit ?_
      | refine blockQ_miss rfl ?_
      | refine aL_nil ?_
      | (apply aL_step; (· exact True.intro); (· simp (disch := first | omega | (simp only [go_sem]; omega)) only [go_sem, get_miss, seval, reduceCtorEq]); (· simp (disch := first | omega | (simp only [go_sem]; omega)) only [go_sem, get_miss, seval, reduceCtorEq] <;> with_reducible rfl); (· simp only [go_sem] <;> with_reducible rfl))
      | (refine aL_skip ?_ (by simp only [go_sem] <;> with_reducible rfl) ?_; (· simp (disch := first | omega | (simp only [go_sem]; omega)) only [go_sem, get_miss, seval, reduceCtorEq]))
      | (apply aL_guardN; (· simp (disch := first | omega | (simp only [go_sem]; omega)) only [go_sem, get_miss, seval, reduceCtorEq] <;> with_reducible rfl); all_goals (intro h; first | (exfalso; omega) | (simp only [h, decide_true, decide_false, not_true, not_false_iff])))
      | (apply aL_guardP; (· simp (disch := first | omega | (simp only [go_sem]; omega)) only [go_sem, get_miss, seval, reduceCtorEq] <;> with_reducible rfl); all_goals (intro h; first | (exfalso; omega) | (simp only [h, decide_true, decide_false, not_true, not_false_iff])))
      | (refine aC_condT ?_ ?_; (· simp (disch := first | omega | (simp only [go_sem]; omega)) only [go_sem, get_miss, seval, reduceCtorEq]))
      | (refine aC_condF ?_ ?_; (· simp (disch := first | omega | (simp only [go_sem]; omega)) only [go_sem, get_miss, seval, reduceCtorEq]))
      | (refine aC_condP (by simp (disch := first | omega | (simp only [go_sem]; omega)) only [go_sem, get_miss, seval, reduceCtorEq] <;> with_reducible rfl) ?_ ?_ <;> (intro h; first | (exfalso; omega) | skip))
      | fail)
    all_goals try (first | exact True.intro | omega)
    all_goals try (simp (disch := first | omega | (simp only [go_sem]; omega)) only [go_sem, get_miss, seval, reduceCtorEq] <;> first | exact True.intro | omega)
    all_goals (simp (disch := first | omega | (simp only [go_sem]; omega)) only [go_sem, get_miss, seval, reduceCtorEq, List.replicate_zero])
    all_goals simp

/-- The instruction of a word as a text. -/
def txtW (w : Nat) : List UInt8 := txt ((w % 256 : Nat) : Int) ((w / 256 % 256 : Nat) : Int) ((w / 65536 % 256 : Nat) : Int) ((w / 16777216 % 256 : Nat) : Int) (immW w)
def textW (ws : List Nat) : List UInt8 := ws.flatMap fun w => txtW w ++ [10]

theorem txt_len {op d a b i : Int} (h : MayF op d a b i (frm op).1 (frm op).2) : (txt op d a b i).length ≤ 80 := by
  obtain ⟨h1, h2, h3, h4, h5, h6⟩ := may_range h
  obtain ⟨f1, f2, _⟩ := frm_parts h1
  have := txL_len (itoa_len d (by omega) (by omega)) (itoa_len a (by omega) (by omega)) (itoa_len b (by omega) (by omega)) (itoa_len i (by omega) (by omega)) (frm op).2
  unfold txt
  rw [List.length_append]
  omega

theorem cpu_TextW {w : Nat} (hM : MayW w) : APure cx 20 [.agg [.int .i64 ((w % 256 : Nat) : Int), .int .i64 ((w / 256 % 256 : Nat) : Int), .int .i64 ((w / 65536 % 256 : Nat) : Int), .int .i64 ((w / 16777216 % 256 : Nat) : Int), .int .i64 (immW w)]] (.tup [.str (txtW w), .int .i64 0]) := by
  have hi := (may_range hM).2.2.2.2
  have ht := cpu_Text ((w % 256 : Nat) : Int) ((w / 256 % 256 : Nat) : Int) ((w / 65536 % 256 : Nat) : Int) ((w / 16777216 % 256 : Nat) : Int) (immW w) (by omega) (by omega)
  rw [if_pos (show MayF _ _ _ _ _ _ _ from hM)] at ht
  exact ht

theorem textW_len : ∀ (ws : List Nat), (∀ w ∈ ws, MayW w) → (textW ws).length ≤ 81 * ws.length
  | [], _ => by simp [textW]
  | w :: ws, h => by
    have ih := textW_len ws (fun x hx => h x (List.mem_cons_of_mem _ hx))
    have h1 : (txtW w).length ≤ 80 := txt_len (h w (List.mem_cons_self ..))
    unfold textW at ih ⊢
    simp only [List.flatMap_cons, List.length_append, List.length_cons, List.length_nil]
    omega

theorem textW_take (ws : List Nat) (k : Nat) (h : k < ws.length) : textW (ws.take (k + 1)) = textW (ws.take k) ++ (txtW (ws.getD k 0) ++ [10]) := by
  rw [List.take_succ_eq_append_getElem h]
  unfold textW
  rw [List.flatMap_append]
  congr 1
  simp [List.getD, h]

theorem cpu_Listing (nl : Bool) (ws : List Nat) (hw : ∀ w ∈ ws, w < 18446744073709551616) (hl : ws.length ≤ 1048576) (hn : nl = true → ws = []) :
    APure cx 26 [.sl 1 nl (wl ws) .any] (if 512 < ws.length then .tup [.str [], .int .i64 3] else if (∀ w ∈ ws, MayW w) then .tup [.str (textW ws), .int .i64 0] else .tup [.str [], .int .i64 4]) := by
  by_cases h512 : 512 < ws.length
  case pos =>
    rw [if_pos h512]
    refine pure_fn cxOk Tryd.func26 (by kernel_rfl) (fun _ => false) (fun _ => none) (by kernel_rfl) (Nat.le_of_ble_eq_true (by kernel_rfl)) ?_
    dsimp only [LB, Tryd.f26, lite, nextOf, Option.isNone, Bool.not_true, Bool.not_false, Bool.and_true, Bool.true_and, Bool.false_and, Bool.and_self, Bool.false_eq_true, if_false, if_true, ↓reduceIte, liteO, List.map, Option.map, frame0, List.zipIdx, Nat.reduceAdd]
    try simp only [List.getElem?_toArray, List.getElem?_cons_succ, List.getElem?_cons_zero, Option.bind_some]
    repeat' (first
      | refine aC_seq ?_
      | refine aC_reg rfl ?_
      | refine aC_block ?_
      | refine aC_skip ?_
      | refine aC_loop ?_
      | refine aC_scope ?_
      | refine scopeQ_normal ?_
      | refine scopeQ_exit ?_
      | refine scopeQ_ret ?_
      | refine aC_exit ?_
      | refine aC_ret ?_
      | refine thenQ_normal ?_
      | refine blockQ_normal ?_
      | refine thenQ_ret ?_
      | refine blockQ_ret ?_
      | refine thenQ_exit ?_
      | refine blockQ_hit ?_
      | refine blockQ_miss rfl ?_
      | refine aL_nil ?_
      | (apply aL_step; (· exact True.intro); (· simp (disch := first | omega | (simp only [go_sem]; omega)) only [go_sem, get_miss, seval, reduceCtorEq]); (· simp (disch := first | omega | (simp only [go_sem]; omega)) only [go_sem, get_miss, seval, reduceCtorEq] <;> with_reducible rfl); (· simp only [go_sem] <;> with_reducible rfl))
      | (refine aL_skip ?_ (by simp only [go_sem] <;> with_reducible rfl) ?_; (· simp (disch := first | omega | (simp only [go_sem]; omega)) only [go_sem, get_miss, seval, reduceCtorEq]))
      | (apply aL_guardN; (· simp (disch := first | omega | (simp only [go_sem]; omega)) only [go_sem, get_miss, seval, reduceCtorEq] <;> with_reducible rfl); all_goals (intro h; first | (exfalso; omega) | (simp only [h, decide_true, decide_false, not_true, not_false_iff])))
      | (apply aL_guardP; (· simp (disch := first | omega | (simp only [go_sem]; omega)) only [go_sem, get_miss, seval, reduceCtorEq] <;> with_reducible rfl); all_goals (intro h; first | (exfalso; omega) | (simp only [h, decide_true, decide_false, not_true, not_false_iff])))
      | (refine aC_condT ?_ ?_; (· simp (disch := first | omega | (simp only [go_sem]; omega)) only [go_sem, get_miss, seval, reduceCtorEq]))
      | (refine aC_condF ?_ ?_; (· simp (disch := first | omega | (simp only [go_sem]; omega)) only [go_sem, get_miss, seval, reduceCtorEq]))
      | (refine aC_condP (by simp (disch := first | omega | (simp only [go_sem]; omega)) only [go_sem, get_miss, seval, reduceCtorEq] <;> with_reducible rfl) ?_ ?_ <;> (intro h; first | (exfalso; omega) | skip))
      | fail)
    all_goals try (first | exact True.intro | omega)
    all_goals try (simp (disch := first | omega | (simp only [go_sem]; omega)) only [go_sem, get_miss, seval, reduceCtorEq] <;> first | exact True.intro | omega)
    all_goals try (simp (disch := first | omega | (simp only [go_sem]; omega)) only [go_sem, get_miss, seval, reduceCtorEq])
    all_goals try simp
  case neg =>
  rw [if_neg h512]
  have hcl := clone_words nl ws hl hn
  generalize hr : (if (∀ w ∈ ws, MayW w) then AVal.tup [.str (textW ws), .int .i64 0] else AVal.tup [.str [], .int .i64 4]) = r
  have hyes : (∀ w ∈ ws, MayW w) → r = .tup [.str (textW ws), .int .i64 0] := fun h => by rw [← hr, if_pos h]
  have hno : ∀ w ∈ ws, ¬ MayW w → r = .tup [.str [], .int .i64 4] := fun w hm h => by rw [← hr, if_neg (fun k => h (k w hm))]
  clear hr
  refine pure_fn cxOk Tryd.func26 (by kernel_rfl) (fun _ => false) (fun _ => none) (by kernel_rfl) (Nat.le_of_ble_eq_true (by kernel_rfl)) ?_
  dsimp only [LB, Tryd.f26, lite, nextOf, Option.isNone, Bool.not_true, Bool.not_false, Bool.and_true, Bool.true_and, Bool.false_and, Bool.and_self, Bool.false_eq_true, if_false, if_true, ↓reduceIte, liteO, List.map, Option.map, frame0, List.zipIdx, Nat.reduceAdd]
  try simp only [List.getElem?_toArray, List.getElem?_cons_succ, List.getElem?_cons_zero, Option.bind_some]
  repeat' (first
    | refine aC_seq ?_
    | refine aC_reg rfl ?_
    | refine aC_block ?_
    | refine aC_skip ?_
    | refine aC_loop ?_
    | refine aC_scope ?_
    | refine scopeQ_normal ?_
    | refine scopeQ_exit ?_
    | refine scopeQ_ret ?_
    | refine aC_exit ?_
    | refine aC_ret ?_
    | refine thenQ_normal ?_
    | refine blockQ_normal ?_
    | refine thenQ_ret ?_
    | refine blockQ_ret ?_
    | refine thenQ_exit ?_
    | refine blockQ_hit ?_
    | refine blockQ_miss rfl ?_
    | refine aL_nil ?_
    | (apply aL_step; (· exact True.intro); (· simp (disch := first | omega | (simp only [go_sem]; omega)) only [go_sem, get_miss, seval, reduceCtorEq]); (· simp (disch := first | omega | (simp only [go_sem]; omega)) only [go_sem, get_miss, seval, reduceCtorEq] <;> with_reducible rfl); (· simp only [go_sem] <;> with_reducible rfl))
    | (refine aL_skip ?_ (by simp only [go_sem] <;> with_reducible rfl) ?_; (· simp (disch := first | omega | (simp only [go_sem]; omega)) only [go_sem, get_miss, seval, reduceCtorEq]))
    | (apply aL_guardN; (· simp (disch := first | omega | (simp only [go_sem]; omega)) only [go_sem, get_miss, seval, reduceCtorEq] <;> with_reducible rfl); all_goals (intro h; first | (exfalso; omega) | (simp only [h, decide_true, decide_false, not_true, not_false_iff])))
    | (apply aL_guardP; (· simp (disch := first | omega | (simp only [go_sem]; omega)) only [go_sem, get_miss, seval, reduceCtorEq] <;> with_reducible rfl); all_goals (intro h; first | (exfalso; omega) | (simp only [h, decide_true, decide_false, not_true, not_false_iff])))
    | (refine aC_condT ?_ ?_; (· simp (disch := first | omega | (simp only [go_sem]; omega)) only [go_sem, get_miss, seval, reduceCtorEq]))
    | (refine aC_condF ?_ ?_; (· simp (disch := first | omega | (simp only [go_sem]; omega)) only [go_sem, get_miss, seval, reduceCtorEq]))
    | (refine aC_condP (by simp (disch := first | omega | (simp only [go_sem]; omega)) only [go_sem, get_miss, seval, reduceCtorEq] <;> with_reducible rfl) ?_ ?_ <;> (intro h; first | (exfalso; omega) | skip))
    | (apply aL_pure cxG (hcl); (case hg => (simp (disch := first | omega | (simp only [go_sem]; omega)) only [go_sem, get_miss, seval, reduceCtorEq])); (case hx => (simp (disch := first | omega | (simp only [go_sem]; omega)) only [go_sem, get_miss, seval, reduceCtorEq] <;> with_reducible rfl)); (case ha => (simp (disch := first | omega | (simp only [go_sem]; omega)) only [go_sem, get_miss, seval, reduceCtorEq] <;> with_reducible rfl)); (case he => (simp only [go_sem] <;> with_reducible rfl)); (case hcl => (simp)); (case hf => (simp only [go_sem] <;> with_reducible rfl)))
    | fail)
  · refine loop_ruleD (cxOk.wp _ _) (cxG.wp _ _) (σ := Nat) (fun k => [(17, .int .i64 k), (16, .int .i64 ws.length), (15, .sl 1 nl (wl ws) .any), (4, .ptr 0 0)])
      (fun k => [bld 0 1 (if k = 0 then .nilp else .ptr 0 0) (textW (ws.take k)), .grow (textW (ws.take k)).length 1 5]) (fun k => ws.length - k) (fun k => k ≤ ws.length ∧ ∀ w ∈ ws.take k, MayW w)
      2 0 (GStep.own 0 5 rfl) ⟨⟨Nat.zero_le _, by simp⟩, Sub.of_all (by simp [Fr.get]), rfl⟩ (by simp) (fun k _ => ⟨by by_cases h : k = 0 <;> simp [h, belS, belB, bld, bel, bels, belT, Nat.blt, bels_bytes], by simp [belF, bel, bels_wl, belT, Nat.blt]⟩) ?_
    rintro k ⟨hk, hJ⟩
    have htl := textW_len (ws.take k) hJ
    have htk : (ws.take k).length ≤ 512 := by rw [List.length_take]; omega
    have hp : (if k = 0 then AVal.nilp else .ptr 0 0) = .nilp ∨ (if k = 0 then AVal.nilp else .ptr 0 0) = .ptr 0 0 := by split <;> simp
    by_cases hlt : k < ws.length
    · have hmem : ws.getD k 0 ∈ ws := by simp [List.getD, hlt]
      have hw64 := hw _ hmem
      have hd := cpu_Decode (ws.getD k 0) hw64
      by_cases hM : MayW (ws.getD k 0)
      · rw [if_pos hM] at hd
        have ht := cpu_TextW hM
        have hxl : (txtW (ws.getD k 0)).length ≤ 80 := txt_len hM
        have htake := textW_take ws k hlt
        have hJ' : ∀ w ∈ ws.take (k + 1), MayW w := by
          rw [List.take_succ_eq_append_getElem hlt]
          intro w hw
          rcases List.mem_append.1 hw with h | h
          · exact hJ w h
          · have : w = ws.getD k 0 := by simpa [List.getD, hlt] using h
            rw [this]; exact hM
        clear hyes hno hM
        have hgd : (wl ws).getD k .any = .int .u64 ((ws.getD k 0 : Nat) : Int) := getD_wl ws k _ hlt
        generalize ws.getD k 0 = w at *
        generalize hbs : textW (ws.take k) = bs at *
        generalize hX : txtW w = X at *
        generalize hpp : (if k = 0 then AVal.nilp else .ptr 0 0) = p at *
        have hws := write_string (S := [bld 0 1 p bs, .grow bs.length 1 5, .cells [.int .i64 ((w % 256 : Nat) : Int), .int .i64 ((w / 256 % 256 : Nat) : Int), .int .i64 ((w / 65536 % 256 : Nat) : Int), .int .i64 ((w / 16777216 % 256 : Nat) : Int), .int .i64 (immW w)] 26])
          (i := 0) (g := 1) (p := p) (bs := bs) (s := X ++ [10]) hp rfl rfl (by simp; omega)
        simp only [List.set_cons_zero, List.set_cons_succ] at hws
        repeat' (first
          | refine aC_seq ?_
          | refine aC_reg rfl ?_
          | refine aC_block ?_
          | refine aC_skip ?_
          | refine aC_loop ?_
          | refine aC_scope ?_
          | refine scopeQ_normal ?_
          | refine scopeQ_exit ?_
          | refine scopeQ_ret ?_
          | refine aC_exit ?_
          | refine aC_ret ?_
          | refine thenQ_normal ?_
          | refine blockQ_normal ?_
          | refine thenQ_ret ?_
          | refine blockQ_ret ?_
          | refine thenQ_exit ?_
          | refine blockQ_hit ?_
          | refine blockQ_miss rfl ?_
          | refine aL_nil ?_
          | (apply aL_step; (· exact True.intro); (· simp (disch := first | omega | (simp only [go_sem]; omega)) only [go_sem, get_miss, seval, reduceCtorEq, hgd]); (· simp (disch := first | omega | (simp only [go_sem]; omega)) only [go_sem, get_miss, seval, reduceCtorEq, hgd] <;> with_reducible rfl); (· simp only [go_sem] <;> with_reducible rfl))
          | (refine aL_skip ?_ (by simp only [go_sem] <;> with_reducible rfl) ?_; (· simp (disch := first | omega | (simp only [go_sem]; omega)) only [go_sem, get_miss, seval, reduceCtorEq, hgd]))
          | (apply aL_guardN; (· simp (disch := first | omega | (simp only [go_sem]; omega)) only [go_sem, get_miss, seval, reduceCtorEq, hgd] <;> with_reducible rfl); all_goals (intro h; first | (exfalso; omega) | (simp only [h, decide_true, decide_false, not_true, not_false_iff])))
          | (apply aL_guardP; (· simp (disch := first | omega | (simp only [go_sem]; omega)) only [go_sem, get_miss, seval, reduceCtorEq, hgd] <;> with_reducible rfl); all_goals (intro h; first | (exfalso; omega) | (simp only [h, decide_true, decide_false, not_true, not_false_iff])))
          | (refine aC_condT ?_ ?_; (· simp (disch := first | omega | (simp only [go_sem]; omega)) only [go_sem, get_miss, seval, reduceCtorEq, hgd]))
          | (refine aC_condF ?_ ?_; (· simp (disch := first | omega | (simp only [go_sem]; omega)) only [go_sem, get_miss, seval, reduceCtorEq, hgd]))
          | (refine aC_condP (by simp (disch := first | omega | (simp only [go_sem]; omega)) only [go_sem, get_miss, seval, reduceCtorEq, hgd] <;> with_reducible rfl) ?_ ?_ <;> (intro h; first | (exfalso; omega) | skip))
          | (apply aL_pure cxG (hd); (case hg => (simp (disch := first | omega | (simp only [go_sem]; omega)) only [go_sem, get_miss, seval, reduceCtorEq, hgd])); (case hx => (simp (disch := first | omega | (simp only [go_sem]; omega)) only [go_sem, get_miss, seval, reduceCtorEq, hgd] <;> with_reducible rfl)); (case ha => (simp (disch := first | omega | (simp only [go_sem]; omega)) only [go_sem, get_miss, seval, reduceCtorEq, hgd] <;> with_reducible rfl)); (case he => (simp only [go_sem] <;> with_reducible rfl)); (case hcl => (simp)); (case hf => (simp only [go_sem] <;> with_reducible rfl)))
          | (apply aL_pure cxG (ht); (case hg => (simp (disch := first | omega | (simp only [go_sem]; omega)) only [go_sem, get_miss, seval, reduceCtorEq, hgd])); (case hx => (simp (disch := first | omega | (simp only [go_sem]; omega)) only [go_sem, get_miss, seval, reduceCtorEq, hgd] <;> with_reducible rfl)); (case ha => (simp (disch := first | omega | (simp only [go_sem]; omega)) only [go_sem, get_miss, seval, reduceCtorEq, hgd] <;> with_reducible rfl)); (case he => (simp only [go_sem] <;> with_reducible rfl)); (case hcl => (simp)); (case hf => (simp only [go_sem] <;> with_reducible rfl)))
          | (apply aL_acall (hws); (case hg => (simp (disch := first | omega | (simp only [go_sem]; omega)) only [go_sem, get_miss, seval, reduceCtorEq, hgd])); (case hx => (simp (disch := first | omega | (simp only [go_sem]; omega)) only [go_sem, get_miss, seval, reduceCtorEq, hgd] <;> with_reducible rfl)); (case ha => (simp (disch := first | omega | (simp only [go_sem]; omega)) only [go_sem, get_miss, seval, reduceCtorEq, hgd] <;> with_reducible rfl)); (case he => (with_reducible rfl)); (case hp => (rfl)); (case hf => (simp only [go_sem] <;> with_reducible rfl)))
          | fail)
        all_goals try (first | exact True.intro | omega)
        all_goals try (simp (disch := first | omega | (simp only [go_sem]; omega)) only [go_sem, get_miss, seval, reduceCtorEq] <;> first | exact True.intro | omega)
        all_goals exact ⟨k + 1, ⟨by omega, hJ'⟩, Sub.of_all (by simp [Fr.get]), by simp [htake, List.length_append], by omega⟩
      · rw [if_neg hM] at hd
        rw [hno _ hmem hM]
        clear hyes hno
        have hgd : (wl ws).getD k .any = .int .u64 ((ws.getD k 0 : Nat) : Int) := getD_wl ws k _ hlt
        repeat' (first
          | refine aC_seq ?_
          | refine aC_reg rfl ?_
          | refine aC_block ?_
          | refine aC_skip ?_
          | refine aC_loop ?_
          | refine aC_scope ?_
          | refine scopeQ_normal ?_
          | refine scopeQ_exit ?_
          | refine scopeQ_ret ?_
          | refine aC_exit ?_
          | refine aC_ret ?_
          | refine thenQ_normal ?_
          | refine blockQ_normal ?_
          | refine thenQ_ret ?_
          | refine blockQ_ret ?_
          | refine thenQ_exit ?_
          | refine blockQ_hit ?_
          | refine blockQ_miss rfl ?_
          | refine aL_nil ?_
          | (apply aL_step; (· exact True.intro); (· simp (disch := first | omega | (simp only [go_sem]; omega)) only [go_sem, get_miss, seval, reduceCtorEq, hgd, eq_self_iff_true, decide_true, decide_false, Bool.not_true, Bool.not_false, Int.reduceEq, not_false_eq_true, not_true_eq_false]); (· simp (disch := first | omega | (simp only [go_sem]; omega)) only [go_sem, get_miss, seval, reduceCtorEq, hgd, eq_self_iff_true, decide_true, decide_false, Bool.not_true, Bool.not_false, Int.reduceEq, not_false_eq_true, not_true_eq_false] <;> with_reducible rfl); (· simp only [go_sem] <;> with_reducible rfl))
          | (refine aL_skip ?_ (by simp only [go_sem] <;> with_reducible rfl) ?_; (· simp (disch := first | omega | (simp only [go_sem]; omega)) only [go_sem, get_miss, seval, reduceCtorEq, hgd, eq_self_iff_true, decide_true, decide_false, Bool.not_true, Bool.not_false, Int.reduceEq, not_false_eq_true, not_true_eq_false]))
          | (apply aL_guardN; (· simp (disch := first | omega | (simp only [go_sem]; omega)) only [go_sem, get_miss, seval, reduceCtorEq, hgd, eq_self_iff_true, decide_true, decide_false, Bool.not_true, Bool.not_false, Int.reduceEq, not_false_eq_true, not_true_eq_false] <;> with_reducible rfl); all_goals (intro h; first | (exfalso; omega) | (simp only [h, decide_true, decide_false, not_true, not_false_iff])))
          | (apply aL_guardP; (· simp (disch := first | omega | (simp only [go_sem]; omega)) only [go_sem, get_miss, seval, reduceCtorEq, hgd, eq_self_iff_true, decide_true, decide_false, Bool.not_true, Bool.not_false, Int.reduceEq, not_false_eq_true, not_true_eq_false] <;> with_reducible rfl); all_goals (intro h; first | (exfalso; omega) | (simp only [h, decide_true, decide_false, not_true, not_false_iff])))
          | (refine aC_condT ?_ ?_; (· simp (disch := first | omega | (simp only [go_sem]; omega)) only [go_sem, get_miss, seval, reduceCtorEq, hgd, eq_self_iff_true, decide_true, decide_false, Bool.not_true, Bool.not_false, Int.reduceEq, not_false_eq_true, not_true_eq_false]))
          | (refine aC_condF ?_ ?_; (· simp (disch := first | omega | (simp only [go_sem]; omega)) only [go_sem, get_miss, seval, reduceCtorEq, hgd, eq_self_iff_true, decide_true, decide_false, Bool.not_true, Bool.not_false, Int.reduceEq, not_false_eq_true, not_true_eq_false]))
          | (refine aC_condP (by simp (disch := first | omega | (simp only [go_sem]; omega)) only [go_sem, get_miss, seval, reduceCtorEq, hgd, eq_self_iff_true, decide_true, decide_false, Bool.not_true, Bool.not_false, Int.reduceEq, not_false_eq_true, not_true_eq_false] <;> with_reducible rfl) ?_ ?_ <;> (intro h; first | (exfalso; omega) | skip))
          | (apply aL_pure cxG (hd); (case hg => (simp (disch := first | omega | (simp only [go_sem]; omega)) only [go_sem, get_miss, seval, reduceCtorEq, hgd, eq_self_iff_true, decide_true, decide_false, Bool.not_true, Bool.not_false, Int.reduceEq, not_false_eq_true, not_true_eq_false])); (case hx => (simp (disch := first | omega | (simp only [go_sem]; omega)) only [go_sem, get_miss, seval, reduceCtorEq, hgd, eq_self_iff_true, decide_true, decide_false, Bool.not_true, Bool.not_false, Int.reduceEq, not_false_eq_true, not_true_eq_false] <;> with_reducible rfl)); (case ha => (simp (disch := first | omega | (simp only [go_sem]; omega)) only [go_sem, get_miss, seval, reduceCtorEq, hgd, eq_self_iff_true, decide_true, decide_false, Bool.not_true, Bool.not_false, Int.reduceEq, not_false_eq_true, not_true_eq_false] <;> with_reducible rfl)); (case he => (simp only [go_sem] <;> with_reducible rfl)); (case hcl => (simp)); (case hf => (simp only [go_sem] <;> with_reducible rfl)))
          | fail)
        all_goals try (first | exact True.intro | omega)
        all_goals try (simp (disch := first | omega | (simp only [go_sem]; omega)) only [go_sem, get_miss, seval, reduceCtorEq] <;> first | exact True.intro | omega)
        all_goals try (simp (disch := first | omega | (simp only [go_sem]; omega)) only [go_sem, get_miss, seval, reduceCtorEq])
        all_goals try simp
    · have hk' : k = ws.length := by omega
      subst hk'
      rw [hyes (by rw [List.take_length] at hJ; exact hJ)]
      clear hyes hno
      rw [List.take_length]
      generalize (if ws.length = 0 then AVal.nilp else .ptr 0 0) = p at *
      have hs := bld_string bldOk (S := [bld 0 1 p (textW ws), .grow (textW ws).length 1 5]) (i := 0) (g := 1) (p := p) (bs := textW ws) rfl rfl
      repeat' (first
        | refine aC_seq ?_
        | refine aC_reg rfl ?_
        | refine aC_block ?_
        | refine aC_skip ?_
        | refine aC_loop ?_
        | refine aC_scope ?_
        | refine scopeQ_normal ?_
        | refine scopeQ_exit ?_
        | refine scopeQ_ret ?_
        | refine aC_exit ?_
        | refine aC_ret ?_
        | refine thenQ_normal ?_
        | refine blockQ_normal ?_
        | refine thenQ_ret ?_
        | refine blockQ_ret ?_
        | refine thenQ_exit ?_
        | refine blockQ_hit ?_
        | refine blockQ_miss rfl ?_
        | refine aL_nil ?_
        | (apply aL_step; (· exact True.intro); (· simp (disch := first | omega | (simp only [go_sem]; omega)) only [go_sem, get_miss, seval, reduceCtorEq]); (· simp (disch := first | omega | (simp only [go_sem]; omega)) only [go_sem, get_miss, seval, reduceCtorEq] <;> with_reducible rfl); (· simp only [go_sem] <;> with_reducible rfl))
        | (refine aL_skip ?_ (by simp only [go_sem] <;> with_reducible rfl) ?_; (· simp (disch := first | omega | (simp only [go_sem]; omega)) only [go_sem, get_miss, seval, reduceCtorEq]))
        | (apply aL_guardN; (· simp (disch := first | omega | (simp only [go_sem]; omega)) only [go_sem, get_miss, seval, reduceCtorEq] <;> with_reducible rfl); all_goals (intro h; first | (exfalso; omega) | (simp only [h, decide_true, decide_false, not_true, not_false_iff])))
        | (apply aL_guardP; (· simp (disch := first | omega | (simp only [go_sem]; omega)) only [go_sem, get_miss, seval, reduceCtorEq] <;> with_reducible rfl); all_goals (intro h; first | (exfalso; omega) | (simp only [h, decide_true, decide_false, not_true, not_false_iff])))
        | (refine aC_condT ?_ ?_; (· simp (disch := first | omega | (simp only [go_sem]; omega)) only [go_sem, get_miss, seval, reduceCtorEq]))
        | (refine aC_condF ?_ ?_; (· simp (disch := first | omega | (simp only [go_sem]; omega)) only [go_sem, get_miss, seval, reduceCtorEq]))
        | (refine aC_condP (by simp (disch := first | omega | (simp only [go_sem]; omega)) only [go_sem, get_miss, seval, reduceCtorEq] <;> with_reducible rfl) ?_ ?_ <;> (intro h; first | (exfalso; omega) | skip))
        | (apply aL_acall (hs); (case hg => (simp (disch := first | omega | (simp only [go_sem]; omega)) only [go_sem, get_miss, seval, reduceCtorEq])); (case hx => (simp (disch := first | omega | (simp only [go_sem]; omega)) only [go_sem, get_miss, seval, reduceCtorEq] <;> with_reducible rfl)); (case ha => (simp (disch := first | omega | (simp only [go_sem]; omega)) only [go_sem, get_miss, seval, reduceCtorEq] <;> with_reducible rfl)); (case he => (with_reducible rfl)); (case hp => (rfl)); (case hf => (simp only [go_sem] <;> with_reducible rfl)))
        | fail)
      all_goals try (first | exact True.intro | omega)
      all_goals try (simp (disch := first | omega | (simp only [go_sem]; omega)) only [go_sem, get_miss, seval, reduceCtorEq] <;> first | exact True.intro | omega)
      all_goals try (simp (disch := first | omega | (simp only [go_sem]; omega)) only [go_sem, get_miss, seval, reduceCtorEq])
      all_goals try simp
  all_goals trivial
end Go.Am
end
section
set_option linter.unusedVariables false
set_option linter.unusedSimpArgs false
namespace Go.Am
open Go Go.Proofs
set_option linter.unusedSimpArgs false
set_option linter.unusedVariables false
set_option maxHeartbeats 8000000
set_option maxRecDepth 100000
section
attribute [local irreducible] aC aL thenQ blockQ scopeQ ALoop AWp

/-- A text's end without its last byte 10. -/
def trimS (s : List UInt8) : List UInt8 := if s.drop (s.length - 1) = [10] then s.take (s.length - 1) else s

theorem has_suffix (s : List UInt8) (hs : s.length ≤ 9223372036854775807) : APure cx 74 [.str s, .str [10]] (.bool (decide (s.drop (s.length - 1) = [10]))) := by
  by_cases h0 : s = []
  · subst h0
    refine pure_fn cxOk Tryd.func74 (by kernel_rfl) (fun _ => false) (fun _ => none) (by kernel_rfl) (Nat.le_of_ble_eq_true (by kernel_rfl)) ?_
    dsimp only [LB, Tryd.f74, lite, nextOf, Option.isNone, Bool.not_true, Bool.not_false, Bool.and_true, Bool.true_and, Bool.false_and, Bool.and_self, Bool.false_eq_true, if_false, if_true, ↓reduceIte, liteO, List.map, Option.map, frame0, List.zipIdx, Nat.reduceAdd]
    try simp only [List.getElem?_toArray, List.getElem?_cons_succ, List.getElem?_cons_zero, Option.bind_some]
    repeat' (first
      | refine aC_seq ?_
      | refine aC_reg rfl ?_
      | refine aC_block ?_
      | refine aC_skip ?_
      | refine aC_loop ?_
      | refine aC_scope ?_
      | refine scopeQ_normal ?_
      | refine scopeQ_exit ?_
      | refine scopeQ_ret ?_
      | refine aC_exit ?_
      | refine aC_ret ?_
      | refine thenQ_normal ?_
      | refine blockQ_normal ?_
      | refine thenQ_ret ?_
      | refine blockQ_ret ?_
      | refine thenQ_exit ?_
      | refine blockQ_hit ?_
      | refine blockQ_miss rfl ?_
      | refine aL_nil ?_
      | (apply aL_step; (· exact True.intro); (· simp (disch := first | omega | (simp only [go_sem]; omega)) only [go_sem, get_miss, seval, reduceCtorEq]); (· simp (disch := first | omega | (simp only [go_sem]; omega)) only [go_sem, get_miss, seval, reduceCtorEq] <;> with_reducible rfl); (· simp only [go_sem] <;> with_reducible rfl))
      | (refine aL_skip ?_ (by simp only [go_sem] <;> with_reducible rfl) ?_; (· simp (disch := first | omega | (simp only [go_sem]; omega)) only [go_sem, get_miss, seval, reduceCtorEq]))
      | (apply aL_guardN; (· simp (disch := first | omega | (simp only [go_sem]; omega)) only [go_sem, get_miss, seval, reduceCtorEq] <;> with_reducible rfl); all_goals (intro h; first | (exfalso; omega) | (simp only [h, decide_true, decide_false, not_true, not_false_iff])))
      | (apply aL_guardP; (· simp (disch := first | omega | (simp only [go_sem]; omega)) only [go_sem, get_miss, seval, reduceCtorEq] <;> with_reducible rfl); all_goals (intro h; first | (exfalso; omega) | (simp only [h, decide_true, decide_false, not_true, not_false_iff])))
      | (refine aC_condT ?_ ?_; (· simp (disch := first | omega | (simp only [go_sem]; omega)) only [go_sem, get_miss, seval, reduceCtorEq]))
      | (refine aC_condF ?_ ?_; (· simp (disch := first | omega | (simp only [go_sem]; omega)) only [go_sem, get_miss, seval, reduceCtorEq]))
      | (refine aC_condP (by simp (disch := first | omega | (simp only [go_sem]; omega)) only [go_sem, get_miss, seval, reduceCtorEq] <;> with_reducible rfl) ?_ ?_ <;> (intro h; first | (exfalso; omega) | skip))
      | fail)
    all_goals try (first | exact True.intro | omega)
    all_goals try (simp (disch := first | omega | (simp only [go_sem]; omega)) only [go_sem, get_miss, seval, reduceCtorEq] <;> first | exact True.intro | omega)
    all_goals try (simp (disch := first | omega | (simp only [go_sem]; omega)) only [go_sem, get_miss, seval, reduceCtorEq])
    all_goals try simp
  · have hpos : 1 ≤ s.length := by
      cases s with
      | nil => exact absurd rfl h0
      | cons => simp
    refine pure_fn cxOk Tryd.func74 (by kernel_rfl) (fun _ => false) (fun _ => none) (by kernel_rfl) (Nat.le_of_ble_eq_true (by kernel_rfl)) ?_
    dsimp only [LB, Tryd.f74, lite, nextOf, Option.isNone, Bool.not_true, Bool.not_false, Bool.and_true, Bool.true_and, Bool.false_and, Bool.and_self, Bool.false_eq_true, if_false, if_true, ↓reduceIte, liteO, List.map, Option.map, frame0, List.zipIdx, Nat.reduceAdd]
    try simp only [List.getElem?_toArray, List.getElem?_cons_succ, List.getElem?_cons_zero, Option.bind_some]
    repeat' (first
      | refine aC_seq ?_
      | refine aC_reg rfl ?_
      | refine aC_block ?_
      | refine aC_skip ?_
      | refine aC_loop ?_
      | refine aC_scope ?_
      | refine scopeQ_normal ?_
      | refine scopeQ_exit ?_
      | refine scopeQ_ret ?_
      | refine aC_exit ?_
      | refine aC_ret ?_
      | refine thenQ_normal ?_
      | refine blockQ_normal ?_
      | refine thenQ_ret ?_
      | refine blockQ_ret ?_
      | refine thenQ_exit ?_
      | refine blockQ_hit ?_
      | refine blockQ_miss rfl ?_
      | refine aL_nil ?_
      | (apply aL_step; (· exact True.intro); (· simp (disch := first | omega | (simp only [go_sem]; omega)) only [go_sem, get_miss, seval, reduceCtorEq]); (· simp (disch := first | omega | (simp only [go_sem]; omega)) only [go_sem, get_miss, seval, reduceCtorEq] <;> with_reducible rfl); (· simp only [go_sem] <;> with_reducible rfl))
      | (refine aL_skip ?_ (by simp only [go_sem] <;> with_reducible rfl) ?_; (· simp (disch := first | omega | (simp only [go_sem]; omega)) only [go_sem, get_miss, seval, reduceCtorEq]))
      | (apply aL_guardN; (· simp (disch := first | omega | (simp only [go_sem]; omega)) only [go_sem, get_miss, seval, reduceCtorEq] <;> with_reducible rfl); all_goals (intro h; first | (exfalso; omega) | (simp only [h, decide_true, decide_false, not_true, not_false_iff])))
      | (apply aL_guardP; (· simp (disch := first | omega | (simp only [go_sem]; omega)) only [go_sem, get_miss, seval, reduceCtorEq] <;> with_reducible rfl); all_goals (intro h; first | (exfalso; omega) | (simp only [h, decide_true, decide_false, not_true, not_false_iff])))
      | (refine aC_condT ?_ ?_; (· simp (disch := first | omega | (simp only [go_sem]; omega)) only [go_sem, get_miss, seval, reduceCtorEq]))
      | (refine aC_condF ?_ ?_; (· simp (disch := first | omega | (simp only [go_sem]; omega)) only [go_sem, get_miss, seval, reduceCtorEq]))
      | (refine aC_condP (by simp (disch := first | omega | (simp only [go_sem]; omega)) only [go_sem, get_miss, seval, reduceCtorEq] <;> with_reducible rfl) ?_ ?_ <;> (intro h; first | (exfalso; omega) | skip))
      | fail)
    all_goals try (first | exact True.intro | omega)
    all_goals try (simp (disch := first | omega | (simp only [go_sem]; omega)) only [go_sem, get_miss, seval, reduceCtorEq] <;> first | exact True.intro | omega)
    all_goals try (simp (disch := first | omega | (simp only [go_sem]; omega)) only [go_sem, get_miss, seval, reduceCtorEq])
    all_goals (first | rw [show ((s.length : Int) - ((1 : Nat) : Int)).toNat = s.length - 1 by omega] | rw [show ((s.length : Int) - 1).toNat = s.length - 1 by omega])
    all_goals simp

theorem trim_suffix (s : List UInt8) (hs : s.length ≤ 9223372036854775807) : APure cx 46 [.str s, .str [10]] (.str (trimS s)) := by
  have h1 := has_suffix s hs
  have h2 : APure cx 63 [.str s, .str [10]] (.str (trimS s)) := by
    by_cases hd : s.drop (s.length - 1) = [10]
    · rw [decide_eq_true hd] at h1
      have he : trimS s = s.take (s.length - 1) := if_pos hd
      have hpos : 1 ≤ s.length := by
        cases s with
        | nil => simp at hd
        | cons => simp
      rw [he]
      refine pure_fn cxOk Tryd.func63 (by kernel_rfl) (fun _ => false) (fun _ => none) (by kernel_rfl) (Nat.le_of_ble_eq_true (by kernel_rfl)) ?_
      dsimp only [LB, Tryd.f63, lite, nextOf, Option.isNone, Bool.not_true, Bool.not_false, Bool.and_true, Bool.true_and, Bool.false_and, Bool.and_self, Bool.false_eq_true, if_false, if_true, ↓reduceIte, liteO, List.map, Option.map, frame0, List.zipIdx, Nat.reduceAdd]
      try simp only [List.getElem?_toArray, List.getElem?_cons_succ, List.getElem?_cons_zero, Option.bind_some]
      have e1 : ((s.length : Int) - ((1 : Nat) : Int)).toNat = s.length - 1 := by omega
      repeat' (first
        | refine aC_seq ?_
        | refine aC_reg rfl ?_
        | refine aC_block ?_
        | refine aC_skip ?_
        | refine aC_loop ?_
        | refine aC_scope ?_
        | refine scopeQ_normal ?_
        | refine scopeQ_exit ?_
        | refine scopeQ_ret ?_
        | refine aC_exit ?_
        | refine aC_ret ?_
        | refine thenQ_normal ?_
        | refine blockQ_normal ?_
        | refine thenQ_ret ?_
        | refine blockQ_ret ?_
        | refine thenQ_exit ?_
        | refine blockQ_hit ?_
        | refine blockQ_miss rfl ?_
        | refine aL_nil ?_
        | (apply aL_step; (· exact True.intro); (· simp (disch := first | omega | (simp only [go_sem]; omega)) only [go_sem, get_miss, seval, reduceCtorEq, e1]); (· simp (disch := first | omega | (simp only [go_sem]; omega)) only [go_sem, get_miss, seval, reduceCtorEq, e1] <;> with_reducible rfl); (· simp only [go_sem] <;> with_reducible rfl))
        | (refine aL_skip ?_ (by simp only [go_sem] <;> with_reducible rfl) ?_; (· simp (disch := first | omega | (simp only [go_sem]; omega)) only [go_sem, get_miss, seval, reduceCtorEq, e1]))
        | (apply aL_guardN; (· simp (disch := first | omega | (simp only [go_sem]; omega)) only [go_sem, get_miss, seval, reduceCtorEq, e1] <;> with_reducible rfl); all_goals (intro h; first | (exfalso; omega) | (simp only [h, decide_true, decide_false, not_true, not_false_iff])))
        | (apply aL_guardP; (· simp (disch := first | omega | (simp only [go_sem]; omega)) only [go_sem, get_miss, seval, reduceCtorEq, e1] <;> with_reducible rfl); all_goals (intro h; first | (exfalso; omega) | (simp only [h, decide_true, decide_false, not_true, not_false_iff])))
        | (refine aC_condT ?_ ?_; (· simp (disch := first | omega | (simp only [go_sem]; omega)) only [go_sem, get_miss, seval, reduceCtorEq, e1]))
        | (refine aC_condF ?_ ?_; (· simp (disch := first | omega | (simp only [go_sem]; omega)) only [go_sem, get_miss, seval, reduceCtorEq, e1]))
        | (refine aC_condP (by simp (disch := first | omega | (simp only [go_sem]; omega)) only [go_sem, get_miss, seval, reduceCtorEq, e1] <;> with_reducible rfl) ?_ ?_ <;> (intro h; first | (exfalso; omega) | skip))
        | (apply aL_pure cxG (h1); (case hg => (simp (disch := first | omega | (simp only [go_sem]; omega)) only [go_sem, get_miss, seval, reduceCtorEq, e1])); (case hx => (simp (disch := first | omega | (simp only [go_sem]; omega)) only [go_sem, get_miss, seval, reduceCtorEq, e1] <;> with_reducible rfl)); (case ha => (simp (disch := first | omega | (simp only [go_sem]; omega)) only [go_sem, get_miss, seval, reduceCtorEq, e1] <;> with_reducible rfl)); (case he => (simp only [go_sem] <;> with_reducible rfl)); (case hcl => (simp)); (case hf => (simp only [go_sem] <;> with_reducible rfl)))
        | fail)
      all_goals try (first | exact True.intro | omega)
      all_goals try (simp (disch := first | omega | (simp only [go_sem]; omega)) only [go_sem, get_miss, seval, reduceCtorEq] <;> first | exact True.intro | omega)
      all_goals try (simp (disch := first | omega | (simp only [go_sem]; omega)) only [go_sem, get_miss, seval, reduceCtorEq, e1])
      all_goals try simp
    · rw [decide_eq_false hd] at h1
      have he : trimS s = s := if_neg hd
      rw [he]
      refine pure_fn cxOk Tryd.func63 (by kernel_rfl) (fun _ => false) (fun _ => none) (by kernel_rfl) (Nat.le_of_ble_eq_true (by kernel_rfl)) ?_
      dsimp only [LB, Tryd.f63, lite, nextOf, Option.isNone, Bool.not_true, Bool.not_false, Bool.and_true, Bool.true_and, Bool.false_and, Bool.and_self, Bool.false_eq_true, if_false, if_true, ↓reduceIte, liteO, List.map, Option.map, frame0, List.zipIdx, Nat.reduceAdd]
      try simp only [List.getElem?_toArray, List.getElem?_cons_succ, List.getElem?_cons_zero, Option.bind_some]
      repeat' (first
        | refine aC_seq ?_
        | refine aC_reg rfl ?_
        | refine aC_block ?_
        | refine aC_skip ?_
        | refine aC_loop ?_
        | refine aC_scope ?_
        | refine scopeQ_normal ?_
        | refine scopeQ_exit ?_
        | refine scopeQ_ret ?_
        | refine aC_exit ?_
        | refine aC_ret ?_
        | refine thenQ_normal ?_
        | refine blockQ_normal ?_
        | refine thenQ_ret ?_
        | refine blockQ_ret ?_
        | refine thenQ_exit ?_
        | refine blockQ_hit ?_
        | refine blockQ_miss rfl ?_
        | refine aL_nil ?_
        | (apply aL_step; (· exact True.intro); (· simp (disch := first | omega | (simp only [go_sem]; omega)) only [go_sem, get_miss, seval, reduceCtorEq]); (· simp (disch := first | omega | (simp only [go_sem]; omega)) only [go_sem, get_miss, seval, reduceCtorEq] <;> with_reducible rfl); (· simp only [go_sem] <;> with_reducible rfl))
        | (refine aL_skip ?_ (by simp only [go_sem] <;> with_reducible rfl) ?_; (· simp (disch := first | omega | (simp only [go_sem]; omega)) only [go_sem, get_miss, seval, reduceCtorEq]))
        | (apply aL_guardN; (· simp (disch := first | omega | (simp only [go_sem]; omega)) only [go_sem, get_miss, seval, reduceCtorEq] <;> with_reducible rfl); all_goals (intro h; first | (exfalso; omega) | (simp only [h, decide_true, decide_false, not_true, not_false_iff])))
        | (apply aL_guardP; (· simp (disch := first | omega | (simp only [go_sem]; omega)) only [go_sem, get_miss, seval, reduceCtorEq] <;> with_reducible rfl); all_goals (intro h; first | (exfalso; omega) | (simp only [h, decide_true, decide_false, not_true, not_false_iff])))
        | (refine aC_condT ?_ ?_; (· simp (disch := first | omega | (simp only [go_sem]; omega)) only [go_sem, get_miss, seval, reduceCtorEq]))
        | (refine aC_condF ?_ ?_; (· simp (disch := first | omega | (simp only [go_sem]; omega)) only [go_sem, get_miss, seval, reduceCtorEq]))
        | (refine aC_condP (by simp (disch := first | omega | (simp only [go_sem]; omega)) only [go_sem, get_miss, seval, reduceCtorEq] <;> with_reducible rfl) ?_ ?_ <;> (intro h; first | (exfalso; omega) | skip))
        | (apply aL_pure cxG (h1); (case hg => (simp (disch := first | omega | (simp only [go_sem]; omega)) only [go_sem, get_miss, seval, reduceCtorEq])); (case hx => (simp (disch := first | omega | (simp only [go_sem]; omega)) only [go_sem, get_miss, seval, reduceCtorEq] <;> with_reducible rfl)); (case ha => (simp (disch := first | omega | (simp only [go_sem]; omega)) only [go_sem, get_miss, seval, reduceCtorEq] <;> with_reducible rfl)); (case he => (simp only [go_sem] <;> with_reducible rfl)); (case hcl => (simp)); (case hf => (simp only [go_sem] <;> with_reducible rfl)))
        | fail)
      all_goals try (first | exact True.intro | omega)
      all_goals try (simp (disch := first | omega | (simp only [go_sem]; omega)) only [go_sem, get_miss, seval, reduceCtorEq] <;> first | exact True.intro | omega)
      all_goals try (simp (disch := first | omega | (simp only [go_sem]; omega)) only [go_sem, get_miss, seval, reduceCtorEq])
      all_goals try simp
  refine pure_fn cxOk Tryd.func46 (by kernel_rfl) (fun _ => false) (fun _ => none) (by kernel_rfl) (Nat.le_of_ble_eq_true (by kernel_rfl)) ?_
  dsimp only [LB, Tryd.f46, lite, nextOf, Option.isNone, Bool.not_true, Bool.not_false, Bool.and_true, Bool.true_and, Bool.false_and, Bool.and_self, Bool.false_eq_true, if_false, if_true, ↓reduceIte, liteO, List.map, Option.map, frame0, List.zipIdx, Nat.reduceAdd]
  try simp only [List.getElem?_toArray, List.getElem?_cons_succ, List.getElem?_cons_zero, Option.bind_some]
  repeat' (first
    | refine aC_seq ?_
    | refine aC_reg rfl ?_
    | refine aC_block ?_
    | refine aC_skip ?_
    | refine aC_loop ?_
    | refine aC_scope ?_
    | refine scopeQ_normal ?_
    | refine scopeQ_exit ?_
    | refine scopeQ_ret ?_
    | refine aC_exit ?_
    | refine aC_ret ?_
    | refine thenQ_normal ?_
    | refine blockQ_normal ?_
    | refine thenQ_ret ?_
    | refine blockQ_ret ?_
    | refine thenQ_exit ?_
    | refine blockQ_hit ?_
    | refine blockQ_miss rfl ?_
    | refine aL_nil ?_
    | (apply aL_step; (· exact True.intro); (· simp (disch := first | omega | (simp only [go_sem]; omega)) only [go_sem, get_miss, seval, reduceCtorEq]); (· simp (disch := first | omega | (simp only [go_sem]; omega)) only [go_sem, get_miss, seval, reduceCtorEq] <;> with_reducible rfl); (· simp only [go_sem] <;> with_reducible rfl))
    | (refine aL_skip ?_ (by simp only [go_sem] <;> with_reducible rfl) ?_; (· simp (disch := first | omega | (simp only [go_sem]; omega)) only [go_sem, get_miss, seval, reduceCtorEq]))
    | (apply aL_guardN; (· simp (disch := first | omega | (simp only [go_sem]; omega)) only [go_sem, get_miss, seval, reduceCtorEq] <;> with_reducible rfl); all_goals (intro h; first | (exfalso; omega) | (simp only [h, decide_true, decide_false, not_true, not_false_iff])))
    | (apply aL_guardP; (· simp (disch := first | omega | (simp only [go_sem]; omega)) only [go_sem, get_miss, seval, reduceCtorEq] <;> with_reducible rfl); all_goals (intro h; first | (exfalso; omega) | (simp only [h, decide_true, decide_false, not_true, not_false_iff])))
    | (refine aC_condT ?_ ?_; (· simp (disch := first | omega | (simp only [go_sem]; omega)) only [go_sem, get_miss, seval, reduceCtorEq]))
    | (refine aC_condF ?_ ?_; (· simp (disch := first | omega | (simp only [go_sem]; omega)) only [go_sem, get_miss, seval, reduceCtorEq]))
    | (refine aC_condP (by simp (disch := first | omega | (simp only [go_sem]; omega)) only [go_sem, get_miss, seval, reduceCtorEq] <;> with_reducible rfl) ?_ ?_ <;> (intro h; first | (exfalso; omega) | skip))
    | (apply aL_pure cxG (h2); (case hg => (simp (disch := first | omega | (simp only [go_sem]; omega)) only [go_sem, get_miss, seval, reduceCtorEq])); (case hx => (simp (disch := first | omega | (simp only [go_sem]; omega)) only [go_sem, get_miss, seval, reduceCtorEq] <;> with_reducible rfl)); (case ha => (simp (disch := first | omega | (simp only [go_sem]; omega)) only [go_sem, get_miss, seval, reduceCtorEq] <;> with_reducible rfl)); (case he => (simp only [go_sem] <;> with_reducible rfl)); (case hcl => (simp)); (case hf => (simp only [go_sem] <;> with_reducible rfl)))
    | fail)
  all_goals try (first | exact True.intro | omega)
  all_goals try (simp (disch := first | omega | (simp only [go_sem]; omega)) only [go_sem, get_miss, seval, reduceCtorEq] <;> first | exact True.intro | omega)
  all_goals try (simp (disch := first | omega | (simp only [go_sem]; omega)) only [go_sem, get_miss, seval, reduceCtorEq])
  all_goals try simp

/-- A program's lines. -/
def linesG (s : List UInt8) : List (List UInt8) := if s = [] then [] else parts (trimS s) [10]
def IsLine (x : List UInt8) : Prop := ∃ op d a b i : Int, IsIns x op d a b i
open Classical in
noncomputable def wordL (x : List UInt8) : Nat := if h : ∃ w : Nat, ∃ op d a b i : Int, IsIns x op d a b i ∧ (w : Int) = encI op d a b i then h.choose else 0

theorem wordL_eq {x : List UInt8} {op d a b i : Int} (h : IsIns x op d a b i) : (wordL x : Int) = encI op d a b i := by
  obtain ⟨h1, h2, h3, h4, _⟩ := may_range h.1
  have h0 : 0 ≤ encI op d a b i := by unfold encI; omega
  have hx : ∃ w : Nat, ∃ op d a b i : Int, IsIns x op d a b i ∧ (w : Int) = encI op d a b i := ⟨(encI op d a b i).toNat, op, d, a, b, i, h, by omega⟩
  unfold wordL
  rw [dif_pos hx]
  obtain ⟨op', d', a', b', i', h', e⟩ := hx.choose_spec
  obtain ⟨rfl, rfl, rfl, rfl, rfl⟩ := ins_unique h h'
  exact e

theorem wl_snoc (L : List (List UInt8)) (k : Nat) (h : k < L.length) : wl ((L.take k).map wordL) ++ [.int .u64 ((wordL L[k] : Nat) : Int)] = wl ((L.take (k + 1)).map wordL) := by
  rw [List.take_succ_eq_append_getElem h, List.map_append]
  unfold wl
  rw [List.map_append]
  rfl

theorem cpu_Program (s : List UInt8) (hs : s.length ≤ 1000000) (hb : ∀ x ∈ linesG s, x.length ≤ 20000) (r : AVal)
    (hr : (512 < (linesG s).length ∧ r = .tup [.sl 1 true [] .any, .int .i64 0, .int .i64 3]) ∨
      ((linesG s).length ≤ 512 ∧ (∀ x ∈ linesG s, IsLine x) ∧ r = .tup [.sl 1 (linesG s).isEmpty (wl ((linesG s).map wordL)) .any, .int .i64 0, .int .i64 0]) ∨
      ((linesG s).length ≤ 512 ∧ ∃ k, ∃ h : k < (linesG s).length, (∀ x ∈ (linesG s).take k, IsLine x) ∧ ¬ IsLine (linesG s)[k] ∧ r = .tup [.sl 1 true [] .any, .int .i64 k, .int .i64 4])) :
    APure cx 27 [.str s] r := by
  have ht := trim_suffix s (by omega)
  have htl : (trimS s).length ≤ s.length := by unfold trimS; split <;> simp
  have hsp := a_split (trimS s) [10] (by omega) (by decide)
  by_cases h0 : s = []
  · subst h0
    have hr' : r = .tup [.sl 1 true [] .any, .int .i64 0, .int .i64 0] := by
      rcases hr with ⟨h, _⟩ | ⟨_, _, h⟩ | ⟨_, k, h, _⟩
      · exact absurd h (by decide)
      · exact h
      · exact absurd h (Nat.not_lt_zero k)
    subst hr'
    clear hr
    refine pure_fn cxOk Tryd.func27 (by kernel_rfl) (fun _ => false) (fun _ => none) (by kernel_rfl) (Nat.le_of_ble_eq_true (by kernel_rfl)) ?_
    dsimp only [LB, Tryd.f27, lite, nextOf, Option.isNone, Bool.not_true, Bool.not_false, Bool.and_true, Bool.true_and, Bool.false_and, Bool.and_self, Bool.false_eq_true, if_false, if_true, ↓reduceIte, liteO, List.map, Option.map, frame0, List.zipIdx, Nat.reduceAdd]
    try simp only [List.getElem?_toArray, List.getElem?_cons_succ, List.getElem?_cons_zero, Option.bind_some]
    repeat' (first
      | refine aC_seq ?_
      | refine aC_reg rfl ?_
      | refine aC_block ?_
      | refine aC_skip ?_
      | refine aC_loop ?_
      | refine aC_scope ?_
      | refine scopeQ_normal ?_
      | refine scopeQ_exit ?_
      | refine scopeQ_ret ?_
      | refine aC_exit ?_
      | refine aC_ret ?_
      | refine thenQ_normal ?_
      | refine blockQ_normal ?_
      | refine thenQ_ret ?_
      | refine blockQ_ret ?_
      | refine thenQ_exit ?_
      | refine blockQ_hit ?_
      | refine blockQ_miss rfl ?_
      | refine aL_nil ?_
      | (apply aL_step; (· exact True.intro); (· simp (disch := first | omega | (simp only [go_sem]; omega)) only [go_sem, get_miss, seval, reduceCtorEq]); (· simp (disch := first | omega | (simp only [go_sem]; omega)) only [go_sem, get_miss, seval, reduceCtorEq] <;> with_reducible rfl); (· simp only [go_sem] <;> with_reducible rfl))
      | (refine aL_skip ?_ (by simp only [go_sem] <;> with_reducible rfl) ?_; (· simp (disch := first | omega | (simp only [go_sem]; omega)) only [go_sem, get_miss, seval, reduceCtorEq]))
      | (apply aL_guardN; (· simp (disch := first | omega | (simp only [go_sem]; omega)) only [go_sem, get_miss, seval, reduceCtorEq] <;> with_reducible rfl); all_goals (intro h; first | (exfalso; omega) | (simp only [h, decide_true, decide_false, not_true, not_false_iff])))
      | (apply aL_guardP; (· simp (disch := first | omega | (simp only [go_sem]; omega)) only [go_sem, get_miss, seval, reduceCtorEq] <;> with_reducible rfl); all_goals (intro h; first | (exfalso; omega) | (simp only [h, decide_true, decide_false, not_true, not_false_iff])))
      | (refine aC_condT ?_ ?_; (· simp (disch := first | omega | (simp only [go_sem]; omega)) only [go_sem, get_miss, seval, reduceCtorEq]))
      | (refine aC_condF ?_ ?_; (· simp (disch := first | omega | (simp only [go_sem]; omega)) only [go_sem, get_miss, seval, reduceCtorEq]))
      | (refine aC_condP (by simp (disch := first | omega | (simp only [go_sem]; omega)) only [go_sem, get_miss, seval, reduceCtorEq] <;> with_reducible rfl) ?_ ?_ <;> (intro h; first | (exfalso; omega) | skip))
      | (apply aL_pure cxG (ht); (case hg => (simp (disch := first | omega | (simp only [go_sem]; omega)) only [go_sem, get_miss, seval, reduceCtorEq])); (case hx => (simp (disch := first | omega | (simp only [go_sem]; omega)) only [go_sem, get_miss, seval, reduceCtorEq] <;> with_reducible rfl)); (case ha => (simp (disch := first | omega | (simp only [go_sem]; omega)) only [go_sem, get_miss, seval, reduceCtorEq] <;> with_reducible rfl)); (case he => (simp only [go_sem] <;> with_reducible rfl)); (case hcl => (simp)); (case hf => (simp only [go_sem] <;> with_reducible rfl)))
      | (apply aL_pure cxG (hsp); (case hg => (simp (disch := first | omega | (simp only [go_sem]; omega)) only [go_sem, get_miss, seval, reduceCtorEq])); (case hx => (simp (disch := first | omega | (simp only [go_sem]; omega)) only [go_sem, get_miss, seval, reduceCtorEq] <;> with_reducible rfl)); (case ha => (simp (disch := first | omega | (simp only [go_sem]; omega)) only [go_sem, get_miss, seval, reduceCtorEq] <;> with_reducible rfl)); (case he => (simp only [go_sem] <;> with_reducible rfl)); (case hcl => (simp)); (case hf => (simp only [go_sem] <;> with_reducible rfl)))
      | (apply aL_acall (cpu_forms _); (case hg => (simp (disch := first | omega | (simp only [go_sem]; omega)) only [go_sem, get_miss, seval, reduceCtorEq])); (case hx => (simp (disch := first | omega | (simp only [go_sem]; omega)) only [go_sem, get_miss, seval, reduceCtorEq] <;> with_reducible rfl)); (case ha => (simp (disch := first | omega | (simp only [go_sem]; omega)) only [go_sem, get_miss, seval, reduceCtorEq] <;> with_reducible rfl)); (case he => (with_reducible rfl)); (case hp => (rfl)); (case hf => (simp only [go_sem] <;> with_reducible rfl)))
      | fail)
    · refine loop_rule (cxOk.wp _ _) (σ := Unit) (fun _ => [(26, .int .i64 0), (25, .int .i64 0), (8, .int .i64 (-1)), (7, .sl 1 true [] .any)]) (fun _ => [.mpx FORMS 17]) (fun _ => 0) (fun _ => True)
        () (GStep.refl _ _) ⟨trivial, Sub.of_all (by simp [Fr.get]), rfl⟩ ?_
      intro _ _
      repeat' (first
        | refine aC_seq ?_
        | refine aC_reg rfl ?_
        | refine aC_block ?_
        | refine aC_skip ?_
        | refine aC_loop ?_
        | refine aC_scope ?_
        | refine scopeQ_normal ?_
        | refine scopeQ_exit ?_
        | refine scopeQ_ret ?_
        | refine aC_exit ?_
        | refine aC_ret ?_
        | refine thenQ_normal ?_
        | refine blockQ_normal ?_
        | refine thenQ_ret ?_
        | refine blockQ_ret ?_
        | refine thenQ_exit ?_
        | refine blockQ_hit ?_
        | refine blockQ_miss rfl ?_
        | refine aL_nil ?_
        | (apply aL_step; (· exact True.intro); (· simp (disch := first | omega | (simp only [go_sem]; omega)) only [go_sem, get_miss, seval, reduceCtorEq]); (· simp (disch := first | omega | (simp only [go_sem]; omega)) only [go_sem, get_miss, seval, reduceCtorEq] <;> with_reducible rfl); (· simp only [go_sem] <;> with_reducible rfl))
        | (refine aL_skip ?_ (by simp only [go_sem] <;> with_reducible rfl) ?_; (· simp (disch := first | omega | (simp only [go_sem]; omega)) only [go_sem, get_miss, seval, reduceCtorEq]))
        | (apply aL_guardN; (· simp (disch := first | omega | (simp only [go_sem]; omega)) only [go_sem, get_miss, seval, reduceCtorEq] <;> with_reducible rfl); all_goals (intro h; first | (exfalso; omega) | (simp only [h, decide_true, decide_false, not_true, not_false_iff])))
        | (apply aL_guardP; (· simp (disch := first | omega | (simp only [go_sem]; omega)) only [go_sem, get_miss, seval, reduceCtorEq] <;> with_reducible rfl); all_goals (intro h; first | (exfalso; omega) | (simp only [h, decide_true, decide_false, not_true, not_false_iff])))
        | (refine aC_condT ?_ ?_; (· simp (disch := first | omega | (simp only [go_sem]; omega)) only [go_sem, get_miss, seval, reduceCtorEq]))
        | (refine aC_condF ?_ ?_; (· simp (disch := first | omega | (simp only [go_sem]; omega)) only [go_sem, get_miss, seval, reduceCtorEq]))
        | (refine aC_condP (by simp (disch := first | omega | (simp only [go_sem]; omega)) only [go_sem, get_miss, seval, reduceCtorEq] <;> with_reducible rfl) ?_ ?_ <;> (intro h; first | (exfalso; omega) | skip))
        | fail)
      all_goals try (first | exact True.intro | omega)
      all_goals try (simp (disch := first | omega | (simp only [go_sem]; omega)) only [go_sem, get_miss, seval, reduceCtorEq] <;> first | exact True.intro | omega)
      all_goals try (simp (disch := first | omega | (simp only [go_sem]; omega)) only [go_sem, get_miss, seval, reduceCtorEq])
      all_goals try simp
    all_goals trivial
  have hL : linesG s = parts (trimS s) [10] := if_neg h0
  rw [← hL] at hsp
  generalize linesG s = L at *
  by_cases h512 : 512 < L.length
  · have hr' : r = .tup [.sl 1 true [] .any, .int .i64 0, .int .i64 3] := by
      rcases hr with ⟨_, h⟩ | ⟨h, _⟩ | ⟨h, _⟩
      · exact h
      · exact absurd h512 (by omega)
      · exact absurd h512 (by omega)
    subst hr'
    clear hr
    refine pure_fn cxOk Tryd.func27 (by kernel_rfl) (fun _ => false) (fun _ => none) (by kernel_rfl) (Nat.le_of_ble_eq_true (by kernel_rfl)) ?_
    dsimp only [LB, Tryd.f27, lite, nextOf, Option.isNone, Bool.not_true, Bool.not_false, Bool.and_true, Bool.true_and, Bool.false_and, Bool.and_self, Bool.false_eq_true, if_false, if_true, ↓reduceIte, liteO, List.map, Option.map, frame0, List.zipIdx, Nat.reduceAdd]
    try simp only [List.getElem?_toArray, List.getElem?_cons_succ, List.getElem?_cons_zero, Option.bind_some]
    have hs0 : decide (s = []) = false := decide_eq_false h0
    repeat' (first
      | refine aC_seq ?_
      | refine aC_reg rfl ?_
      | refine aC_block ?_
      | refine aC_skip ?_
      | refine aC_loop ?_
      | refine aC_scope ?_
      | refine scopeQ_normal ?_
      | refine scopeQ_exit ?_
      | refine scopeQ_ret ?_
      | refine aC_exit ?_
      | refine aC_ret ?_
      | refine thenQ_normal ?_
      | refine blockQ_normal ?_
      | refine thenQ_ret ?_
      | refine blockQ_ret ?_
      | refine thenQ_exit ?_
      | refine blockQ_hit ?_
      | refine blockQ_miss rfl ?_
      | refine aL_nil ?_
      | (apply aL_step; (· exact True.intro); (· simp (disch := first | omega | (simp only [go_sem]; omega)) only [go_sem, get_miss, seval, reduceCtorEq, hs0]); (· simp (disch := first | omega | (simp only [go_sem]; omega)) only [go_sem, get_miss, seval, reduceCtorEq, hs0] <;> with_reducible rfl); (· simp only [go_sem] <;> with_reducible rfl))
      | (refine aL_skip ?_ (by simp only [go_sem] <;> with_reducible rfl) ?_; (· simp (disch := first | omega | (simp only [go_sem]; omega)) only [go_sem, get_miss, seval, reduceCtorEq, hs0]))
      | (apply aL_guardN; (· simp (disch := first | omega | (simp only [go_sem]; omega)) only [go_sem, get_miss, seval, reduceCtorEq, hs0] <;> with_reducible rfl); all_goals (intro h; first | (exfalso; omega) | (simp only [h, decide_true, decide_false, not_true, not_false_iff])))
      | (apply aL_guardP; (· simp (disch := first | omega | (simp only [go_sem]; omega)) only [go_sem, get_miss, seval, reduceCtorEq, hs0] <;> with_reducible rfl); all_goals (intro h; first | (exfalso; omega) | (simp only [h, decide_true, decide_false, not_true, not_false_iff])))
      | (refine aC_condT ?_ ?_; (· simp (disch := first | omega | (simp only [go_sem]; omega)) only [go_sem, get_miss, seval, reduceCtorEq, hs0]))
      | (refine aC_condF ?_ ?_; (· simp (disch := first | omega | (simp only [go_sem]; omega)) only [go_sem, get_miss, seval, reduceCtorEq, hs0]))
      | (refine aC_condP (by simp (disch := first | omega | (simp only [go_sem]; omega)) only [go_sem, get_miss, seval, reduceCtorEq, hs0] <;> with_reducible rfl) ?_ ?_ <;> (intro h; first | (exfalso; omega) | skip))
      | (apply aL_pure cxG (ht); (case hg => (simp (disch := first | omega | (simp only [go_sem]; omega)) only [go_sem, get_miss, seval, reduceCtorEq, hs0])); (case hx => (simp (disch := first | omega | (simp only [go_sem]; omega)) only [go_sem, get_miss, seval, reduceCtorEq, hs0] <;> with_reducible rfl)); (case ha => (simp (disch := first | omega | (simp only [go_sem]; omega)) only [go_sem, get_miss, seval, reduceCtorEq, hs0] <;> with_reducible rfl)); (case he => (simp only [go_sem] <;> with_reducible rfl)); (case hcl => (simp)); (case hf => (simp only [go_sem] <;> with_reducible rfl)))
      | (apply aL_pure cxG (hsp); (case hg => (simp (disch := first | omega | (simp only [go_sem]; omega)) only [go_sem, get_miss, seval, reduceCtorEq, hs0])); (case hx => (simp (disch := first | omega | (simp only [go_sem]; omega)) only [go_sem, get_miss, seval, reduceCtorEq, hs0] <;> with_reducible rfl)); (case ha => (simp (disch := first | omega | (simp only [go_sem]; omega)) only [go_sem, get_miss, seval, reduceCtorEq, hs0] <;> with_reducible rfl)); (case he => (simp only [go_sem] <;> with_reducible rfl)); (case hcl => (simp)); (case hf => (simp only [go_sem] <;> with_reducible rfl)))
      | (apply aL_acall (cpu_forms _); (case hg => (simp (disch := first | omega | (simp only [go_sem]; omega)) only [go_sem, get_miss, seval, reduceCtorEq, hs0])); (case hx => (simp (disch := first | omega | (simp only [go_sem]; omega)) only [go_sem, get_miss, seval, reduceCtorEq, hs0] <;> with_reducible rfl)); (case ha => (simp (disch := first | omega | (simp only [go_sem]; omega)) only [go_sem, get_miss, seval, reduceCtorEq, hs0] <;> with_reducible rfl)); (case he => (with_reducible rfl)); (case hp => (rfl)); (case hf => (simp only [go_sem] <;> with_reducible rfl)))
      | fail)
    all_goals try (first | exact True.intro | omega)
    all_goals try (simp (disch := first | omega | (simp only [go_sem]; omega)) only [go_sem, get_miss, seval, reduceCtorEq] <;> first | exact True.intro | omega)
    all_goals try (simp (disch := first | omega | (simp only [go_sem]; omega)) only [go_sem, get_miss, seval, reduceCtorEq])
    all_goals try simp
  have hyes : (∀ x ∈ L, IsLine x) → r = .tup [.sl 1 L.isEmpty (wl (L.map wordL)) .any, .int .i64 0, .int .i64 0] := by
    intro h
    rcases hr with ⟨k, _⟩ | ⟨_, _, k⟩ | ⟨_, k, hk, _, hn, _⟩
    · exact absurd k h512
    · exact k
    · exact absurd (h _ (List.getElem_mem hk)) hn
  have hno : ∀ k (h : k < L.length), (∀ x ∈ L.take k, IsLine x) → ¬ IsLine L[k] → r = .tup [.sl 1 true [] .any, .int .i64 k, .int .i64 4] := by
    intro k hk h1 h2
    rcases hr with ⟨q, _⟩ | ⟨_, h, _⟩ | ⟨_, j, hj, g1, g2, e⟩
    · exact absurd q h512
    · exact absurd (h _ (List.getElem_mem hk)) h2
    · have : j = k := by
        rcases Nat.lt_trichotomy j k with h | h | h
        · exact absurd (h1 _ (List.mem_take_iff_getElem.2 ⟨j, by omega, rfl⟩)) g2
        · exact h
        · exact absurd (g1 _ (List.mem_take_iff_getElem.2 ⟨k, by omega, rfl⟩)) h2
      subst this
      exact e
  clear hr
  have hs0 : decide (s = []) = false := decide_eq_false h0
  refine pure_fn cxOk Tryd.func27 (by kernel_rfl) (fun _ => false) (fun _ => none) (by kernel_rfl) (Nat.le_of_ble_eq_true (by kernel_rfl)) ?_
  dsimp only [LB, Tryd.f27, lite, nextOf, Option.isNone, Bool.not_true, Bool.not_false, Bool.and_true, Bool.true_and, Bool.false_and, Bool.and_self, Bool.false_eq_true, if_false, if_true, ↓reduceIte, liteO, List.map, Option.map, frame0, List.zipIdx, Nat.reduceAdd]
  try simp only [List.getElem?_toArray, List.getElem?_cons_succ, List.getElem?_cons_zero, Option.bind_some]
  repeat' (first
    | refine aC_seq ?_
    | refine aC_reg rfl ?_
    | refine aC_block ?_
    | refine aC_skip ?_
    | refine aC_loop ?_
    | refine aC_scope ?_
    | refine scopeQ_normal ?_
    | refine scopeQ_exit ?_
    | refine scopeQ_ret ?_
    | refine aC_exit ?_
    | refine aC_ret ?_
    | refine thenQ_normal ?_
    | refine blockQ_normal ?_
    | refine thenQ_ret ?_
    | refine blockQ_ret ?_
    | refine thenQ_exit ?_
    | refine blockQ_hit ?_
    | refine blockQ_miss rfl ?_
    | refine aL_nil ?_
    | (apply aL_step; (· exact True.intro); (· simp (disch := first | omega | (simp only [go_sem]; omega)) only [go_sem, get_miss, seval, reduceCtorEq, hs0]); (· simp (disch := first | omega | (simp only [go_sem]; omega)) only [go_sem, get_miss, seval, reduceCtorEq, hs0] <;> with_reducible rfl); (· simp only [go_sem] <;> with_reducible rfl))
    | (refine aL_skip ?_ (by simp only [go_sem] <;> with_reducible rfl) ?_; (· simp (disch := first | omega | (simp only [go_sem]; omega)) only [go_sem, get_miss, seval, reduceCtorEq, hs0]))
    | (apply aL_guardN; (· simp (disch := first | omega | (simp only [go_sem]; omega)) only [go_sem, get_miss, seval, reduceCtorEq, hs0] <;> with_reducible rfl); all_goals (intro h; first | (exfalso; omega) | (simp only [h, decide_true, decide_false, not_true, not_false_iff])))
    | (apply aL_guardP; (· simp (disch := first | omega | (simp only [go_sem]; omega)) only [go_sem, get_miss, seval, reduceCtorEq, hs0] <;> with_reducible rfl); all_goals (intro h; first | (exfalso; omega) | (simp only [h, decide_true, decide_false, not_true, not_false_iff])))
    | (refine aC_condT ?_ ?_; (· simp (disch := first | omega | (simp only [go_sem]; omega)) only [go_sem, get_miss, seval, reduceCtorEq, hs0]))
    | (refine aC_condF ?_ ?_; (· simp (disch := first | omega | (simp only [go_sem]; omega)) only [go_sem, get_miss, seval, reduceCtorEq, hs0]))
    | (refine aC_condP (by simp (disch := first | omega | (simp only [go_sem]; omega)) only [go_sem, get_miss, seval, reduceCtorEq, hs0] <;> with_reducible rfl) ?_ ?_ <;> (intro h; first | (exfalso; omega) | skip))
    | (apply aL_pure cxG (ht); (case hg => (simp (disch := first | omega | (simp only [go_sem]; omega)) only [go_sem, get_miss, seval, reduceCtorEq, hs0])); (case hx => (simp (disch := first | omega | (simp only [go_sem]; omega)) only [go_sem, get_miss, seval, reduceCtorEq, hs0] <;> with_reducible rfl)); (case ha => (simp (disch := first | omega | (simp only [go_sem]; omega)) only [go_sem, get_miss, seval, reduceCtorEq, hs0] <;> with_reducible rfl)); (case he => (simp only [go_sem] <;> with_reducible rfl)); (case hcl => (simp)); (case hf => (simp only [go_sem] <;> with_reducible rfl)))
    | (apply aL_pure cxG (hsp); (case hg => (simp (disch := first | omega | (simp only [go_sem]; omega)) only [go_sem, get_miss, seval, reduceCtorEq, hs0])); (case hx => (simp (disch := first | omega | (simp only [go_sem]; omega)) only [go_sem, get_miss, seval, reduceCtorEq, hs0] <;> with_reducible rfl)); (case ha => (simp (disch := first | omega | (simp only [go_sem]; omega)) only [go_sem, get_miss, seval, reduceCtorEq, hs0] <;> with_reducible rfl)); (case he => (simp only [go_sem] <;> with_reducible rfl)); (case hcl => (simp)); (case hf => (simp only [go_sem] <;> with_reducible rfl)))
    | (apply aL_acall (cpu_forms _); (case hg => (simp (disch := first | omega | (simp only [go_sem]; omega)) only [go_sem, get_miss, seval, reduceCtorEq, hs0])); (case hx => (simp (disch := first | omega | (simp only [go_sem]; omega)) only [go_sem, get_miss, seval, reduceCtorEq, hs0] <;> with_reducible rfl)); (case ha => (simp (disch := first | omega | (simp only [go_sem]; omega)) only [go_sem, get_miss, seval, reduceCtorEq, hs0] <;> with_reducible rfl)); (case he => (with_reducible rfl)); (case hp => (rfl)); (case hf => (simp only [go_sem] <;> with_reducible rfl)))
    | fail)
  · refine loop_ruleD (cxOk.wp _ _) (cxG.wp _ _) (σ := Nat) (fun k => [(26, .int .i64 k), (25, .int .i64 L.length), (24, .sl 1 false (L.map .str) .full), (8, .int .i64 (-1)), (7, .sl 1 ((L.take k).map wordL).isEmpty (wl ((L.take k).map wordL)) (.grow 1)), (6, .map 0)])
      (fun k => [.mpx FORMS 17, .grow ((L.take k).map wordL).length 1 22]) (fun k => L.length - k) (fun k => k ≤ L.length ∧ ∀ x ∈ L.take k, IsLine x)
      2 0 (GStep.nil 7 1 22 rfl) ⟨⟨Nat.zero_le _, by simp⟩, Sub.of_all (by simp [Fr.get, nil_wl]), by simp⟩ (by simp) (fun k _ => ⟨by kernel_rfl, by simp [belF, bel, bels_wl, bels_str, belT, Nat.blt]⟩) ?_
    rintro k ⟨hk, hJ⟩
    by_cases hlt : k < L.length
    · have hx : L[k].length ≤ 20000 := hb _ (List.getElem_mem hlt)
      have hgd : (L.map AVal.str).getD k .any = .str L[k] := by simp [List.getD, hlt]
      have hsn := wl_snoc L k hlt
      have htk : ((L.take k).map wordL).length = k := by rw [List.length_map, List.length_take]; omega
      have htk1 : ((L.take (k + 1)).map wordL).length = k + 1 := by rw [List.length_map, List.length_take]; omega
      have hte : ((L.take (k + 1)).map wordL).isEmpty = false := by
        cases hq : (L.take (k + 1)).map wordL with
        | nil => rw [hq] at htk1; simp at htk1
        | cons => rfl
      by_cases hI : IsLine L[k]
      · have hJ' : ∀ x ∈ L.take (k + 1), IsLine x := by
          rw [List.take_succ_eq_append_getElem hlt]
          intro x hx
          rcases List.mem_append.1 hx with h | h
          · exact hJ x h
          · rw [List.mem_singleton.1 h]; exact hI
        obtain ⟨op, d, a, b, i, hI⟩ := hI
        generalize hW : (L.take k).map wordL = W at *
        have hu := untext_lend (S := [.mpx FORMS 17, .grow W.length 1 22]) (i := 0) (untext_is hx hI) rfl rfl
        have hi := (may_range hI.1).2.2.2.2
        have he := cpu_Encode op d a b i (by omega) (by omega)
        rw [if_pos hI.1, ← wordL_eq hI] at he
        clear hyes hno hI
        generalize hN : wordL L[k] = N at *
        repeat' (first
          | refine aC_seq ?_
          | refine aC_reg rfl ?_
          | refine aC_block ?_
          | refine aC_skip ?_
          | refine aC_loop ?_
          | refine aC_scope ?_
          | refine scopeQ_normal ?_
          | refine scopeQ_exit ?_
          | refine scopeQ_ret ?_
          | refine aC_exit ?_
          | refine aC_ret ?_
          | refine thenQ_normal ?_
          | refine blockQ_normal ?_
          | refine thenQ_ret ?_
          | refine blockQ_ret ?_
          | refine thenQ_exit ?_
          | refine blockQ_hit ?_
          | refine blockQ_miss rfl ?_
          | refine aL_nil ?_
          | (apply aL_step; (· exact True.intro); (· simp (disch := first | omega | (simp only [go_sem]; omega)) only [go_sem, get_miss, seval, reduceCtorEq, hgd, List.isEmpty_cons, Bool.and_false]); (· simp (disch := first | omega | (simp only [go_sem]; omega)) only [go_sem, get_miss, seval, reduceCtorEq, hgd, List.isEmpty_cons, Bool.and_false] <;> with_reducible rfl); (· simp only [go_sem] <;> with_reducible rfl))
          | (refine aL_skip ?_ (by simp only [go_sem] <;> with_reducible rfl) ?_; (· simp (disch := first | omega | (simp only [go_sem]; omega)) only [go_sem, get_miss, seval, reduceCtorEq, hgd, List.isEmpty_cons, Bool.and_false]))
          | (apply aL_guardN; (· simp (disch := first | omega | (simp only [go_sem]; omega)) only [go_sem, get_miss, seval, reduceCtorEq, hgd, List.isEmpty_cons, Bool.and_false] <;> with_reducible rfl); all_goals (intro h; first | (exfalso; omega) | (simp only [h, decide_true, decide_false, not_true, not_false_iff])))
          | (apply aL_guardP; (· simp (disch := first | omega | (simp only [go_sem]; omega)) only [go_sem, get_miss, seval, reduceCtorEq, hgd, List.isEmpty_cons, Bool.and_false] <;> with_reducible rfl); all_goals (intro h; first | (exfalso; omega) | (simp only [h, decide_true, decide_false, not_true, not_false_iff])))
          | (refine aC_condT ?_ ?_; (· simp (disch := first | omega | (simp only [go_sem]; omega)) only [go_sem, get_miss, seval, reduceCtorEq, hgd, List.isEmpty_cons, Bool.and_false]))
          | (refine aC_condF ?_ ?_; (· simp (disch := first | omega | (simp only [go_sem]; omega)) only [go_sem, get_miss, seval, reduceCtorEq, hgd, List.isEmpty_cons, Bool.and_false]))
          | (refine aC_condP (by simp (disch := first | omega | (simp only [go_sem]; omega)) only [go_sem, get_miss, seval, reduceCtorEq, hgd, List.isEmpty_cons, Bool.and_false] <;> with_reducible rfl) ?_ ?_ <;> (intro h; first | (exfalso; omega) | skip))
          | (apply aL_acall (hu); (case hg => (simp (disch := first | omega | (simp only [go_sem]; omega)) only [go_sem, get_miss, seval, reduceCtorEq, hgd, List.isEmpty_cons, Bool.and_false])); (case hx => (simp (disch := first | omega | (simp only [go_sem]; omega)) only [go_sem, get_miss, seval, reduceCtorEq, hgd, List.isEmpty_cons, Bool.and_false] <;> with_reducible rfl)); (case ha => (simp (disch := first | omega | (simp only [go_sem]; omega)) only [go_sem, get_miss, seval, reduceCtorEq, hgd, List.isEmpty_cons, Bool.and_false] <;> with_reducible rfl)); (case he => (with_reducible rfl)); (case hp => (rfl)); (case hf => (simp only [go_sem] <;> with_reducible rfl)))
          | (apply aL_pure cxG (he); (case hg => (simp (disch := first | omega | (simp only [go_sem]; omega)) only [go_sem, get_miss, seval, reduceCtorEq, hgd, List.isEmpty_cons, Bool.and_false])); (case hx => (simp (disch := first | omega | (simp only [go_sem]; omega)) only [go_sem, get_miss, seval, reduceCtorEq, hgd, List.isEmpty_cons, Bool.and_false] <;> with_reducible rfl)); (case ha => (simp (disch := first | omega | (simp only [go_sem]; omega)) only [go_sem, get_miss, seval, reduceCtorEq, hgd, List.isEmpty_cons, Bool.and_false] <;> with_reducible rfl)); (case he => (simp only [go_sem] <;> with_reducible rfl)); (case hcl => (simp)); (case hf => (simp only [go_sem] <;> with_reducible rfl)))
          | fail)
        all_goals try (first | exact True.intro | omega)
        all_goals try (simp (disch := first | omega | (simp only [go_sem]; omega)) only [go_sem, get_miss, seval, reduceCtorEq] <;> first | exact True.intro | omega)
        all_goals
        refine ⟨k + 1, ⟨by omega, hJ'⟩, ?_, ?_, by omega⟩
        · show Sub _ [(26, .int .i64 ((k + 1 : Nat) : Int)), (25, .int .i64 L.length), (24, .sl 1 false (L.map .str) .full), (8, .int .i64 (-1)), (7, .sl 1 ((L.take (k + 1)).map wordL).isEmpty (wl ((L.take (k + 1)).map wordL)) (.grow 1)), (6, .map 0)]
          rw [← hsn, hte]
          exact Sub.of_all (by simp [Fr.get])
        · show _ = [ABox.mpx FORMS 17, .grow ((L.take (k + 1)).map wordL).length 1 22]
          rw [htk1, ← htk]
          rfl
      · obtain ⟨op, d, a, b, i, hn⟩ := untext_no hx (fun op d a b i h => hI ⟨op, d, a, b, i, h⟩)
        have hr' := hno k hlt hJ hI
        clear hyes hno
        generalize hW : (L.take k).map wordL = W at *
        have hu := untext_lend (S := [.mpx FORMS 17, .grow W.length 1 22]) (i := 0) hn rfl rfl
        subst hr'
        clear hn
        repeat' (first
          | refine aC_seq ?_
          | refine aC_reg rfl ?_
          | refine aC_block ?_
          | refine aC_skip ?_
          | refine aC_loop ?_
          | refine aC_scope ?_
          | refine scopeQ_normal ?_
          | refine scopeQ_exit ?_
          | refine scopeQ_ret ?_
          | refine aC_exit ?_
          | refine aC_ret ?_
          | refine thenQ_normal ?_
          | refine blockQ_normal ?_
          | refine thenQ_ret ?_
          | refine blockQ_ret ?_
          | refine thenQ_exit ?_
          | refine blockQ_hit ?_
          | refine blockQ_miss rfl ?_
          | refine aL_nil ?_
          | (apply aL_step; (· exact True.intro); (· simp (disch := first | omega | (simp only [go_sem]; omega)) only [go_sem, get_miss, seval, reduceCtorEq, hgd]); (· simp (disch := first | omega | (simp only [go_sem]; omega)) only [go_sem, get_miss, seval, reduceCtorEq, hgd] <;> with_reducible rfl); (· simp only [go_sem] <;> with_reducible rfl))
          | (refine aL_skip ?_ (by simp only [go_sem] <;> with_reducible rfl) ?_; (· simp (disch := first | omega | (simp only [go_sem]; omega)) only [go_sem, get_miss, seval, reduceCtorEq, hgd]))
          | (apply aL_guardN; (· simp (disch := first | omega | (simp only [go_sem]; omega)) only [go_sem, get_miss, seval, reduceCtorEq, hgd] <;> with_reducible rfl); all_goals (intro h; first | (exfalso; omega) | (simp only [h, decide_true, decide_false, not_true, not_false_iff])))
          | (apply aL_guardP; (· simp (disch := first | omega | (simp only [go_sem]; omega)) only [go_sem, get_miss, seval, reduceCtorEq, hgd] <;> with_reducible rfl); all_goals (intro h; first | (exfalso; omega) | (simp only [h, decide_true, decide_false, not_true, not_false_iff])))
          | (refine aC_condT ?_ ?_; (· simp (disch := first | omega | (simp only [go_sem]; omega)) only [go_sem, get_miss, seval, reduceCtorEq, hgd]))
          | (refine aC_condF ?_ ?_; (· simp (disch := first | omega | (simp only [go_sem]; omega)) only [go_sem, get_miss, seval, reduceCtorEq, hgd]))
          | (refine aC_condP (by simp (disch := first | omega | (simp only [go_sem]; omega)) only [go_sem, get_miss, seval, reduceCtorEq, hgd] <;> with_reducible rfl) ?_ ?_ <;> (intro h; first | (exfalso; omega) | skip))
          | (apply aL_acall (hu); (case hg => (simp (disch := first | omega | (simp only [go_sem]; omega)) only [go_sem, get_miss, seval, reduceCtorEq, hgd])); (case hx => (simp (disch := first | omega | (simp only [go_sem]; omega)) only [go_sem, get_miss, seval, reduceCtorEq, hgd] <;> with_reducible rfl)); (case ha => (simp (disch := first | omega | (simp only [go_sem]; omega)) only [go_sem, get_miss, seval, reduceCtorEq, hgd] <;> with_reducible rfl)); (case he => (with_reducible rfl)); (case hp => (rfl)); (case hf => (simp only [go_sem] <;> with_reducible rfl)))
          | fail)
        all_goals try (first | exact True.intro | omega)
        all_goals try (simp (disch := first | omega | (simp only [go_sem]; omega)) only [go_sem, get_miss, seval, reduceCtorEq] <;> first | exact True.intro | omega)
        all_goals try (simp (disch := first | omega | (simp only [go_sem]; omega)) only [go_sem, get_miss, seval, reduceCtorEq])
        all_goals try simp
    · have hk' : k = L.length := by omega
      subst hk'
      rw [List.take_length] at hJ
      rw [hyes hJ]
      clear hyes hno
      simp only [List.take_length]
      repeat' (first
        | refine aC_seq ?_
        | refine aC_reg rfl ?_
        | refine aC_block ?_
        | refine aC_skip ?_
        | refine aC_loop ?_
        | refine aC_scope ?_
        | refine scopeQ_normal ?_
        | refine scopeQ_exit ?_
        | refine scopeQ_ret ?_
        | refine aC_exit ?_
        | refine aC_ret ?_
        | refine thenQ_normal ?_
        | refine blockQ_normal ?_
        | refine thenQ_ret ?_
        | refine blockQ_ret ?_
        | refine thenQ_exit ?_
        | refine blockQ_hit ?_
        | refine blockQ_miss rfl ?_
        | refine aL_nil ?_
        | (apply aL_step; (· exact True.intro); (· simp (disch := first | omega | (simp only [go_sem]; omega)) only [go_sem, get_miss, seval, reduceCtorEq]); (· simp (disch := first | omega | (simp only [go_sem]; omega)) only [go_sem, get_miss, seval, reduceCtorEq] <;> with_reducible rfl); (· simp only [go_sem] <;> with_reducible rfl))
        | (refine aL_skip ?_ (by simp only [go_sem] <;> with_reducible rfl) ?_; (· simp (disch := first | omega | (simp only [go_sem]; omega)) only [go_sem, get_miss, seval, reduceCtorEq]))
        | (apply aL_guardN; (· simp (disch := first | omega | (simp only [go_sem]; omega)) only [go_sem, get_miss, seval, reduceCtorEq] <;> with_reducible rfl); all_goals (intro h; first | (exfalso; omega) | (simp only [h, decide_true, decide_false, not_true, not_false_iff])))
        | (apply aL_guardP; (· simp (disch := first | omega | (simp only [go_sem]; omega)) only [go_sem, get_miss, seval, reduceCtorEq] <;> with_reducible rfl); all_goals (intro h; first | (exfalso; omega) | (simp only [h, decide_true, decide_false, not_true, not_false_iff])))
        | (refine aC_condT ?_ ?_; (· simp (disch := first | omega | (simp only [go_sem]; omega)) only [go_sem, get_miss, seval, reduceCtorEq]))
        | (refine aC_condF ?_ ?_; (· simp (disch := first | omega | (simp only [go_sem]; omega)) only [go_sem, get_miss, seval, reduceCtorEq]))
        | (refine aC_condP (by simp (disch := first | omega | (simp only [go_sem]; omega)) only [go_sem, get_miss, seval, reduceCtorEq] <;> with_reducible rfl) ?_ ?_ <;> (intro h; first | (exfalso; omega) | skip))
        | fail)
      all_goals try (first | exact True.intro | omega)
      all_goals try (simp (disch := first | omega | (simp only [go_sem]; omega)) only [go_sem, get_miss, seval, reduceCtorEq] <;> first | exact True.intro | omega)
      all_goals try (simp (disch := first | omega | (simp only [go_sem]; omega)) only [go_sem, get_miss, seval, reduceCtorEq])
      all_goals try simp
  all_goals trivial
end
end Go.Am
end
section
set_option linter.unusedVariables false
set_option linter.unusedSimpArgs false
namespace Go.Am
open Go Go.Proofs
set_option linter.unusedSimpArgs false
set_option linter.unusedVariables false
set_option maxHeartbeats 8000000
set_option maxRecDepth 100000
section
attribute [local irreducible] aC aL thenQ blockQ scopeQ ALoop AWp

theorem txL_no (D A B I : List UInt8) (hD : 10 ∉ D) (hA : 10 ∉ A) (hB : 10 ∉ B) (hI : 10 ∉ I) : ∀ p : List UInt8, 10 ∉ txL D A B I p
  | [] => by simp [txL]
  | c :: p => by
    have ih := txL_no D A B I hD hA hB hI p
    have hp : 10 ∉ partW D A B I c := by
      unfold partW
      repeat' split
      · simpa using hD
      · simpa using hA
      · simpa using hB
      · exact hI
    rw [txL_cons]
    simp [ih, hp]

theorem txt_no {op d a b i : Int} (h : MayF op d a b i (frm op).1 (frm op).2) : 10 ∉ txt op d a b i := by
  have h1 := (frm_no (may_range h).1).2
  have h2 := txL_no (Lib.itoa d) (Lib.itoa a) (Lib.itoa b) (Lib.itoa i) (itoa_no d 10 (.inl (by decide))) (itoa_no a 10 (.inl (by decide))) (itoa_no b 10 (.inl (by decide))) (itoa_no i 10 (.inl (by decide))) (frm op).2
  unfold txt
  intro hm
  rcases List.mem_append.1 hm with h | h
  · exact h1 h
  · exact h2 h

theorem txtW_no {w : Nat} (h : MayW w) : 10 ∉ txtW w := txt_no h

theorem parts_textW : ∀ (ws : List Nat) (w : Nat), (∀ x ∈ ws, MayW x) → MayW w → parts (textW ws ++ txtW w) [10] = ws.map txtW ++ [txtW w]
  | [], w, _, hw => by
    simp only [textW, List.flatMap_nil, List.nil_append, List.map_nil]
    exact parts_miss 10 _ (txtW_no hw)
  | v :: ws, w, h, hw => by
    have ih := parts_textW ws w (fun x hx => h x (List.mem_cons_of_mem _ hx)) hw
    have e : textW (v :: ws) ++ txtW w = txtW v ++ 10 :: (textW ws ++ txtW w) := by simp [textW]
    rw [e, parts_hit 10 _ _ (txtW_no (h v (List.mem_cons_self ..))), ih]
    simp

theorem linesG_textW (ws : List Nat) (h : ∀ x ∈ ws, MayW x) : linesG (textW ws) = ws.map txtW := by
  rcases List.eq_nil_or_concat ws with rfl | ⟨vs, w, rfl⟩
  · rfl
  · have h1 : ∀ x ∈ vs, MayW x := fun x hx => h x (by simp [hx])
    have h2 : MayW w := h w (by simp)
    have e : textW (vs ++ [w]) = textW vs ++ txtW w ++ [10] := by simp [textW]
    have hl : (textW vs ++ txtW w ++ [10]).length - 1 = (textW vs ++ txtW w).length := by simp
    have ht : trimS (textW vs ++ txtW w ++ [10]) = textW vs ++ txtW w := by
      unfold trimS
      rw [hl, if_pos (List.drop_left), List.take_left]
    rw [List.concat_eq_append, e]
    unfold linesG
    rw [if_neg (by simp), ht, parts_textW vs w h1 h2]
    simp

theorem encI_W {w : Nat} (hw : w < 18446744073709551616) : encI ((w % 256 : Nat) : Int) ((w / 256 % 256 : Nat) : Int) ((w / 65536 % 256 : Nat) : Int) ((w / 16777216 % 256 : Nat) : Int) (immW w) = (w : Int) := by
  unfold encI immW
  split <;> omega

theorem isIns_W {w : Nat} (h : MayW w) : IsIns (txtW w) ((w % 256 : Nat) : Int) ((w / 256 % 256 : Nat) : Int) ((w / 65536 % 256 : Nat) : Int) ((w / 16777216 % 256 : Nat) : Int) (immW w) := ⟨h, rfl⟩

theorem wordL_W {w : Nat} (hw : w < 18446744073709551616) (h : MayW w) : wordL (txtW w) = w := by
  have := wordL_eq (isIns_W h)
  rw [encI_W hw] at this
  omega

/-- A listing's text is read as its words. -/
theorem program_back (ws : List Nat) (hw : ∀ w ∈ ws, w < 18446744073709551616) (hm : ∀ w ∈ ws, MayW w) (hl : ws.length ≤ 512) :
    APure cx 27 [.str (textW ws)] (.tup [.sl 1 ws.isEmpty (wl ws) .any, .int .i64 0, .int .i64 0]) := by
  have hL := linesG_textW ws hm
  have htl := textW_len ws hm
  refine cpu_Program (textW ws) (by omega) (fun x hx => ?_) _ (.inr (.inl ⟨by rw [hL, List.length_map]; exact hl, fun x hx => ?_, ?_⟩))
  · rw [hL] at hx
    obtain ⟨w, hw', rfl⟩ := List.mem_map.1 hx
    exact Nat.le_trans (txt_len (hm w hw')) (by decide)
  · rw [hL] at hx
    obtain ⟨w, hw', rfl⟩ := List.mem_map.1 hx
    exact ⟨_, _, _, _, _, isIns_W (hm w hw')⟩
  · rw [hL]
    have e : (ws.map txtW).map wordL = ws := by
      rw [List.map_map]
      have : ∀ w ∈ ws, (wordL ∘ txtW) w = id w := fun w h => wordL_W (hw w h) (hm w h)
      rw [List.map_congr_left this, List.map_id]
    rw [e]
    cases ws <;> rfl

theorem law_same (n1 n2 : Bool) (a b : List Nat) (ha : a.length ≤ 1000000) (hb : b.length ≤ 1000000) :
    APure cx 28 [.sl 1 n1 (wl a) .any, .sl 1 n2 (wl b) .any] (.bool (decide (a = b))) := by
  by_cases hl : a.length = b.length
  case neg =>
    rw [decide_eq_false (fun h => hl (by rw [h]))]
    have hl' : ¬ ((a.length : Int) = (b.length : Int)) := by omega
    refine pure_fn cxOk Tryd.func28 (by kernel_rfl) (fun _ => false) (fun _ => none) (by kernel_rfl) (Nat.le_of_ble_eq_true (by kernel_rfl)) ?_
    dsimp only [LB, Tryd.f28, lite, nextOf, Option.isNone, Bool.not_true, Bool.not_false, Bool.and_true, Bool.true_and, Bool.false_and, Bool.and_self, Bool.false_eq_true, if_false, if_true, ↓reduceIte, liteO, List.map, Option.map, frame0, List.zipIdx, Nat.reduceAdd]
    try simp only [List.getElem?_toArray, List.getElem?_cons_succ, List.getElem?_cons_zero, Option.bind_some]
    repeat' (first
      | refine aC_seq ?_
      | refine aC_reg rfl ?_
      | refine aC_block ?_
      | refine aC_skip ?_
      | refine aC_loop ?_
      | refine aC_scope ?_
      | refine scopeQ_normal ?_
      | refine scopeQ_exit ?_
      | refine scopeQ_ret ?_
      | refine aC_exit ?_
      | refine aC_ret ?_
      | refine thenQ_normal ?_
      | refine blockQ_normal ?_
      | refine thenQ_ret ?_
      | refine blockQ_ret ?_
      | refine thenQ_exit ?_
      | refine blockQ_hit ?_
      | refine blockQ_miss rfl ?_
      | refine aL_nil ?_
      | (apply aL_step; (· exact True.intro); (· simp (disch := first | omega | (simp only [go_sem]; omega)) only [go_sem, get_miss, seval, reduceCtorEq]); (· simp (disch := first | omega | (simp only [go_sem]; omega)) only [go_sem, get_miss, seval, reduceCtorEq] <;> with_reducible rfl); (· simp only [go_sem] <;> with_reducible rfl))
      | (refine aL_skip ?_ (by simp only [go_sem] <;> with_reducible rfl) ?_; (· simp (disch := first | omega | (simp only [go_sem]; omega)) only [go_sem, get_miss, seval, reduceCtorEq]))
      | (apply aL_guardN; (· simp (disch := first | omega | (simp only [go_sem]; omega)) only [go_sem, get_miss, seval, reduceCtorEq] <;> with_reducible rfl); all_goals (intro h; first | (exfalso; omega) | (simp only [h, decide_true, decide_false, not_true, not_false_iff])))
      | (apply aL_guardP; (· simp (disch := first | omega | (simp only [go_sem]; omega)) only [go_sem, get_miss, seval, reduceCtorEq] <;> with_reducible rfl); all_goals (intro h; first | (exfalso; omega) | (simp only [h, decide_true, decide_false, not_true, not_false_iff])))
      | (refine aC_condT ?_ ?_; (· simp (disch := first | omega | (simp only [go_sem]; omega)) only [go_sem, get_miss, seval, reduceCtorEq]))
      | (refine aC_condF ?_ ?_; (· simp (disch := first | omega | (simp only [go_sem]; omega)) only [go_sem, get_miss, seval, reduceCtorEq]))
      | (refine aC_condP (by simp (disch := first | omega | (simp only [go_sem]; omega)) only [go_sem, get_miss, seval, reduceCtorEq] <;> with_reducible rfl) ?_ ?_ <;> (intro h; first | (exfalso; omega) | skip))
      | fail)
    all_goals try (first | exact True.intro | omega)
    all_goals try (simp (disch := first | omega | (simp only [go_sem]; omega)) only [go_sem, get_miss, seval, reduceCtorEq] <;> first | exact True.intro | omega)
    all_goals try (simp (disch := first | omega | (simp only [go_sem]; omega)) only [go_sem, get_miss, seval, reduceCtorEq])
    all_goals try simp
  case pos =>
  have hyes : a.take a.length = b.take a.length → a = b := fun h => by
    rw [List.take_length, hl, List.take_length] at h
    exact h
  have hno : ∀ k, k < a.length → a.getD k 0 ≠ b.getD k 0 → ¬ a = b := fun k hk h e => h (by rw [e])
  refine pure_fn cxOk Tryd.func28 (by kernel_rfl) (fun _ => false) (fun _ => none) (by kernel_rfl) (Nat.le_of_ble_eq_true (by kernel_rfl)) ?_
  dsimp only [LB, Tryd.f28, lite, nextOf, Option.isNone, Bool.not_true, Bool.not_false, Bool.and_true, Bool.true_and, Bool.false_and, Bool.and_self, Bool.false_eq_true, if_false, if_true, ↓reduceIte, liteO, List.map, Option.map, frame0, List.zipIdx, Nat.reduceAdd]
  try simp only [List.getElem?_toArray, List.getElem?_cons_succ, List.getElem?_cons_zero, Option.bind_some]
  repeat' (first
    | refine aC_seq ?_
    | refine aC_reg rfl ?_
    | refine aC_block ?_
    | refine aC_skip ?_
    | refine aC_loop ?_
    | refine aC_scope ?_
    | refine scopeQ_normal ?_
    | refine scopeQ_exit ?_
    | refine scopeQ_ret ?_
    | refine aC_exit ?_
    | refine aC_ret ?_
    | refine thenQ_normal ?_
    | refine blockQ_normal ?_
    | refine thenQ_ret ?_
    | refine blockQ_ret ?_
    | refine thenQ_exit ?_
    | refine blockQ_hit ?_
    | refine blockQ_miss rfl ?_
    | refine aL_nil ?_
    | (apply aL_step; (· exact True.intro); (· simp (disch := first | omega | (simp only [go_sem]; omega)) only [go_sem, get_miss, seval, reduceCtorEq]); (· simp (disch := first | omega | (simp only [go_sem]; omega)) only [go_sem, get_miss, seval, reduceCtorEq] <;> with_reducible rfl); (· simp only [go_sem] <;> with_reducible rfl))
    | (refine aL_skip ?_ (by simp only [go_sem] <;> with_reducible rfl) ?_; (· simp (disch := first | omega | (simp only [go_sem]; omega)) only [go_sem, get_miss, seval, reduceCtorEq]))
    | (apply aL_guardN; (· simp (disch := first | omega | (simp only [go_sem]; omega)) only [go_sem, get_miss, seval, reduceCtorEq] <;> with_reducible rfl); all_goals (intro h; first | (exfalso; omega) | (simp only [h, decide_true, decide_false, not_true, not_false_iff])))
    | (apply aL_guardP; (· simp (disch := first | omega | (simp only [go_sem]; omega)) only [go_sem, get_miss, seval, reduceCtorEq] <;> with_reducible rfl); all_goals (intro h; first | (exfalso; omega) | (simp only [h, decide_true, decide_false, not_true, not_false_iff])))
    | (refine aC_condT ?_ ?_; (· simp (disch := first | omega | (simp only [go_sem]; omega)) only [go_sem, get_miss, seval, reduceCtorEq]))
    | (refine aC_condF ?_ ?_; (· simp (disch := first | omega | (simp only [go_sem]; omega)) only [go_sem, get_miss, seval, reduceCtorEq]))
    | (refine aC_condP (by simp (disch := first | omega | (simp only [go_sem]; omega)) only [go_sem, get_miss, seval, reduceCtorEq] <;> with_reducible rfl) ?_ ?_ <;> (intro h; first | (exfalso; omega) | skip))
    | fail)
  · refine loop_rule (cxOk.wp _ _) (σ := Nat) (fun k => [(5, .int .i64 k), (1, .sl 1 n2 (wl b) .any), (0, .sl 1 n1 (wl a) .any)])
      (fun k => []) (fun k => a.length - k) (fun k => k ≤ a.length ∧ a.take k = b.take k) 0 (GStep.refl _ _) ⟨⟨Nat.zero_le _, by simp⟩, Sub.of_all (by simp [Fr.get, frame0]), rfl⟩ ?_
    rintro k ⟨hk, hJ⟩
    by_cases hlt : k < a.length
    · have g1 : (wl a).getD k .any = .int .u64 ((a.getD k 0 : Nat) : Int) := getD_wl a k _ hlt
      have g2 : (wl b).getD k .any = .int .u64 ((b.getD k 0 : Nat) : Int) := getD_wl b k _ (by omega)
      have htk : a.getD k 0 = b.getD k 0 → a.take (k + 1) = b.take (k + 1) := fun h => by
        have hlb : k < b.length := by omega
        rw [List.take_succ_eq_append_getElem hlt, List.take_succ_eq_append_getElem hlb, hJ]
        have h' : a[k] = b[k] := by simpa [List.getD, hlt, hlb] using h
        rw [h']
      have hn := hno k hlt
      clear hyes hno
      generalize a.getD k 0 = x at *
      generalize b.getD k 0 = y at *
      by_cases hxy : x = y
      · have h2 := htk hxy
        subst hxy
        clear hn htk
        repeat' (first
          | refine aC_seq ?_
          | refine aC_reg rfl ?_
          | refine aC_block ?_
          | refine aC_skip ?_
          | refine aC_loop ?_
          | refine aC_scope ?_
          | refine scopeQ_normal ?_
          | refine scopeQ_exit ?_
          | refine scopeQ_ret ?_
          | refine aC_exit ?_
          | refine aC_ret ?_
          | refine thenQ_normal ?_
          | refine blockQ_normal ?_
          | refine thenQ_ret ?_
          | refine blockQ_ret ?_
          | refine thenQ_exit ?_
          | refine blockQ_hit ?_
          | refine blockQ_miss rfl ?_
          | refine aL_nil ?_
          | (apply aL_step; (· exact True.intro); (· simp (disch := first | omega | (simp only [go_sem]; omega)) only [go_sem, get_miss, seval, reduceCtorEq, g1, g2, eq_self_iff_true, decide_true, Bool.not_true]); (· simp (disch := first | omega | (simp only [go_sem]; omega)) only [go_sem, get_miss, seval, reduceCtorEq, g1, g2, eq_self_iff_true, decide_true, Bool.not_true] <;> with_reducible rfl); (· simp only [go_sem] <;> with_reducible rfl))
          | (refine aL_skip ?_ (by simp only [go_sem] <;> with_reducible rfl) ?_; (· simp (disch := first | omega | (simp only [go_sem]; omega)) only [go_sem, get_miss, seval, reduceCtorEq, g1, g2, eq_self_iff_true, decide_true, Bool.not_true]))
          | (apply aL_guardN; (· simp (disch := first | omega | (simp only [go_sem]; omega)) only [go_sem, get_miss, seval, reduceCtorEq, g1, g2, eq_self_iff_true, decide_true, Bool.not_true] <;> with_reducible rfl); all_goals (intro h; first | (exfalso; omega) | (simp only [h, decide_true, decide_false, not_true, not_false_iff])))
          | (apply aL_guardP; (· simp (disch := first | omega | (simp only [go_sem]; omega)) only [go_sem, get_miss, seval, reduceCtorEq, g1, g2, eq_self_iff_true, decide_true, Bool.not_true] <;> with_reducible rfl); all_goals (intro h; first | (exfalso; omega) | (simp only [h, decide_true, decide_false, not_true, not_false_iff])))
          | (refine aC_condT ?_ ?_; (· simp (disch := first | omega | (simp only [go_sem]; omega)) only [go_sem, get_miss, seval, reduceCtorEq, g1, g2, eq_self_iff_true, decide_true, Bool.not_true]))
          | (refine aC_condF ?_ ?_; (· simp (disch := first | omega | (simp only [go_sem]; omega)) only [go_sem, get_miss, seval, reduceCtorEq, g1, g2, eq_self_iff_true, decide_true, Bool.not_true]))
          | (refine aC_condP (by simp (disch := first | omega | (simp only [go_sem]; omega)) only [go_sem, get_miss, seval, reduceCtorEq, g1, g2, eq_self_iff_true, decide_true, Bool.not_true] <;> with_reducible rfl) ?_ ?_ <;> (intro h; first | (exfalso; omega) | skip))
          | fail)
        all_goals try (first | exact True.intro | omega)
        all_goals try (simp (disch := first | omega | (simp only [go_sem]; omega)) only [go_sem, get_miss, seval, reduceCtorEq] <;> first | exact True.intro | omega)
        all_goals exact ⟨k + 1, ⟨by omega, h2⟩, Sub.of_all (by simp [Fr.get]), rfl, by omega⟩
      · have hxy' : ¬ ((x : Int) = (y : Int)) := by omega
        rw [decide_eq_false (hn hxy)]
        clear hn htk
        repeat' (first
          | refine aC_seq ?_
          | refine aC_reg rfl ?_
          | refine aC_block ?_
          | refine aC_skip ?_
          | refine aC_loop ?_
          | refine aC_scope ?_
          | refine scopeQ_normal ?_
          | refine scopeQ_exit ?_
          | refine scopeQ_ret ?_
          | refine aC_exit ?_
          | refine aC_ret ?_
          | refine thenQ_normal ?_
          | refine blockQ_normal ?_
          | refine thenQ_ret ?_
          | refine blockQ_ret ?_
          | refine thenQ_exit ?_
          | refine blockQ_hit ?_
          | refine blockQ_miss rfl ?_
          | refine aL_nil ?_
          | (apply aL_step; (· exact True.intro); (· simp (disch := first | omega | (simp only [go_sem]; omega)) only [go_sem, get_miss, seval, reduceCtorEq, g1, g2]); (· simp (disch := first | omega | (simp only [go_sem]; omega)) only [go_sem, get_miss, seval, reduceCtorEq, g1, g2] <;> with_reducible rfl); (· simp only [go_sem] <;> with_reducible rfl))
          | (refine aL_skip ?_ (by simp only [go_sem] <;> with_reducible rfl) ?_; (· simp (disch := first | omega | (simp only [go_sem]; omega)) only [go_sem, get_miss, seval, reduceCtorEq, g1, g2]))
          | (apply aL_guardN; (· simp (disch := first | omega | (simp only [go_sem]; omega)) only [go_sem, get_miss, seval, reduceCtorEq, g1, g2] <;> with_reducible rfl); all_goals (intro h; first | (exfalso; omega) | (simp only [h, decide_true, decide_false, not_true, not_false_iff])))
          | (apply aL_guardP; (· simp (disch := first | omega | (simp only [go_sem]; omega)) only [go_sem, get_miss, seval, reduceCtorEq, g1, g2] <;> with_reducible rfl); all_goals (intro h; first | (exfalso; omega) | (simp only [h, decide_true, decide_false, not_true, not_false_iff])))
          | (refine aC_condT ?_ ?_; (· simp (disch := first | omega | (simp only [go_sem]; omega)) only [go_sem, get_miss, seval, reduceCtorEq, g1, g2]))
          | (refine aC_condF ?_ ?_; (· simp (disch := first | omega | (simp only [go_sem]; omega)) only [go_sem, get_miss, seval, reduceCtorEq, g1, g2]))
          | (refine aC_condP (by simp (disch := first | omega | (simp only [go_sem]; omega)) only [go_sem, get_miss, seval, reduceCtorEq, g1, g2] <;> with_reducible rfl) ?_ ?_ <;> (intro h; first | (exfalso; omega) | skip))
          | fail)
        all_goals try (first | exact True.intro | omega)
        all_goals try (simp (disch := first | omega | (simp only [go_sem]; omega)) only [go_sem, get_miss, seval, reduceCtorEq] <;> first | exact True.intro | omega)
        all_goals try (simp (disch := first | omega | (simp only [go_sem]; omega)) only [go_sem, get_miss, seval, reduceCtorEq])
        all_goals try simp
    · have hk' : k = a.length := by omega
      subst hk'
      rw [decide_eq_true (hyes hJ)]
      clear hyes hno
      repeat' (first
        | refine aC_seq ?_
        | refine aC_reg rfl ?_
        | refine aC_block ?_
        | refine aC_skip ?_
        | refine aC_loop ?_
        | refine aC_scope ?_
        | refine scopeQ_normal ?_
        | refine scopeQ_exit ?_
        | refine scopeQ_ret ?_
        | refine aC_exit ?_
        | refine aC_ret ?_
        | refine thenQ_normal ?_
        | refine blockQ_normal ?_
        | refine thenQ_ret ?_
        | refine blockQ_ret ?_
        | refine thenQ_exit ?_
        | refine blockQ_hit ?_
        | refine blockQ_miss rfl ?_
        | refine aL_nil ?_
        | (apply aL_step; (· exact True.intro); (· simp (disch := first | omega | (simp only [go_sem]; omega)) only [go_sem, get_miss, seval, reduceCtorEq]); (· simp (disch := first | omega | (simp only [go_sem]; omega)) only [go_sem, get_miss, seval, reduceCtorEq] <;> with_reducible rfl); (· simp only [go_sem] <;> with_reducible rfl))
        | (refine aL_skip ?_ (by simp only [go_sem] <;> with_reducible rfl) ?_; (· simp (disch := first | omega | (simp only [go_sem]; omega)) only [go_sem, get_miss, seval, reduceCtorEq]))
        | (apply aL_guardN; (· simp (disch := first | omega | (simp only [go_sem]; omega)) only [go_sem, get_miss, seval, reduceCtorEq] <;> with_reducible rfl); all_goals (intro h; first | (exfalso; omega) | (simp only [h, decide_true, decide_false, not_true, not_false_iff])))
        | (apply aL_guardP; (· simp (disch := first | omega | (simp only [go_sem]; omega)) only [go_sem, get_miss, seval, reduceCtorEq] <;> with_reducible rfl); all_goals (intro h; first | (exfalso; omega) | (simp only [h, decide_true, decide_false, not_true, not_false_iff])))
        | (refine aC_condT ?_ ?_; (· simp (disch := first | omega | (simp only [go_sem]; omega)) only [go_sem, get_miss, seval, reduceCtorEq]))
        | (refine aC_condF ?_ ?_; (· simp (disch := first | omega | (simp only [go_sem]; omega)) only [go_sem, get_miss, seval, reduceCtorEq]))
        | (refine aC_condP (by simp (disch := first | omega | (simp only [go_sem]; omega)) only [go_sem, get_miss, seval, reduceCtorEq] <;> with_reducible rfl) ?_ ?_ <;> (intro h; first | (exfalso; omega) | skip))
        | fail)
      all_goals try (first | exact True.intro | omega)
      all_goals try (simp (disch := first | omega | (simp only [go_sem]; omega)) only [go_sem, get_miss, seval, reduceCtorEq] <;> first | exact True.intro | omega)
      all_goals try (simp (disch := first | omega | (simp only [go_sem]; omega)) only [go_sem, get_miss, seval, reduceCtorEq])
      all_goals try simp
  all_goals trivial
end
end Go.Am
end
