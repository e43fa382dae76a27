/- Numerals of words: strconv.FormatUint. -/
import Derived.Test.YtbaminbodfidmaaDoorTrydSx
import Derived.Test.YtbaminbodfidmaaDoorTrydSh
import Derived.Lib.Walk
import Derived.Lib.ItoaMem
import Derived.WalkKit
import Derived.BigCall
import Derived.BigGuard
set_option linter.unusedVariables false
set_option linter.unusedSimpArgs false
set_option linter.unusedVariables false
set_option linter.unusedSimpArgs false
namespace Go.Am
open Go Go.RowKit Go.Sort Go.Lib Go.Proofs

theorem holds_zero0 (w : World) (T : TypeId) (nd : Nat) (hs : nd ≤ 24) : Holds (fun (b : UInt8) => Value.int .u8 (b.toNat : Int)) (w.alloc (.cells Lib.zeros24 T)) w.heap.size 0 (Array.replicate nd (0 : UInt8)) := fun j hj => by
  have hj' : j < nd := by simpa using hj
  refine ⟨?_, World.frozen?_alloc_new _ _ _ _⟩
  rw [World.cell?_alloc_new, Nat.zero_add, Lib.zeros24_at _ (by omega), getElem!_pos _ j hj]
  simp

theorem fin_pos0 (w : World) (o : Obj) (dk : Array UInt8) (k : Nat) : ∃ os, (putRow (fun (b : UInt8) => Value.int .u8 (b.toNat : Int)) (w.alloc o) w.heap.size 0 dk).drewN k = Sort.grow (w.drewN k) os := by
  rw [alloc_eq_grow]
  obtain ⟨os', _, e⟩ := putRow_grow_new (fun (b : UInt8) => Value.int .u8 (b.toNat : Int)) w #[o] w.heap.size 0 dk (Nat.le_refl _)
  exact ⟨os', by rw [e]; rfl⟩

set_option maxHeartbeats 6400000 in
set_option maxRecDepth 100000 in
theorem fmt_inner (u : Nat) (hu64 : u < 18446744073709551616) (w : World) (htab : Lib.TabIs Tryd.prog w "internal/strconv.uint64pow10" .u64 Lib.pow10Tab) :
    Calls Tryd.prog 46 #[.int .u64 u, .int .i64 10] w fun e w' => e = .returned (.string ⟨(Lib.decDigits u).toArray⟩) ∧ ∃ k os, w' = Sort.grow (w.drewN k) os := by
  have mixed : Tryd.prog.follows Departure.mixedOrders = true := by kernel_rfl
  have t_0 := Tryd.underlying0; have a_0 := Tryd.isAgg0; have z_0 := Tryd.sizeOf0; have v_0 := Tryd.zeroValue0
  have t_1 := Tryd.underlying3; have a_1 := Tryd.isAgg3; have z_1 := Tryd.sizeOf3; have v_1 := Tryd.zeroValue3
  have t_2 := Tryd.underlying4; have a_2 := Tryd.isAgg4; have z_2 := Tryd.sizeOf4; have v_2 := Tryd.zeroValue4
  have t_3 := Tryd.underlying5; have a_3 := Tryd.isAgg5; have z_3 := Tryd.sizeOf5; have v_3 := Tryd.zeroValue5
  have t_4 := Tryd.underlying9; have a_4 := Tryd.isAgg9; have z_4 := Tryd.sizeOf9; have v_4 := Tryd.zeroValue9
  have t_5 := Tryd.underlying24; have a_5 := Tryd.isAgg24; have z_5 := Tryd.sizeOf24; have v_5 := Tryd.zeroValue24
  have t_6 := Tryd.underlying22; have a_6 := Tryd.isAgg22; have z_6 := Tryd.sizeOf22; have v_6 := Tryd.zeroValue22
  have t_7 := Tryd.underlying96; have a_7 := Tryd.isAgg96; have z_7 := Tryd.sizeOf96; have v_7 := Tryd.zeroValue96
  have e_small : ∀ args w, (callFunc 61 args).run Tryd.prog w = .ok (.enter 61 args) w := enters_of Tryd.func61 (by kernel_rfl) rfl
  have e_num : ∀ args w, (callFunc 62 args).run Tryd.prog w = .ok (.enter 62 args) w := enters_of Tryd.func62 (by kernel_rfl) rfl
  have e_fmt : ∀ args w, (callFunc 63 args).run Tryd.prog w = .ok (.enter 63 args) w := enters_of Tryd.func63 (by kernel_rfl) rfl
  have hfn := Tryd.func46
  have c_small := Tryd.internal_strconv_small
  have c_num := Tryd.internal_strconv_numDigits
  have c_fmt := Tryd.internal_strconv_formatBase10
  have hal : Tryd.prog.arrayLen 96 = 24 := by kernel_rfl
  generalize Tryd.prog = P at *
  by_cases hs : u < 100
  · go_enter hfn, Tryd.ntmps46
    go_wp2_with (go_at_fn 61; refine (c_small u hs _).mono ?_; rintro e w' ⟨rfl, rfl⟩)
    go_ret
    exact ⟨rfl, 0, #[], by simp [World.drewN_zero]⟩
  · have hu1 : 1 ≤ u := by omega
    have hnd20 : Lib.nDigits u ≤ 20 := by have := Lib.numDigits_eq u hu1 hu64; split at this <;> omega
    have hb3 : Lib.nDigits u ≤ 23 := by omega
    have hsl1 : ∀ W, (Instr.sliceAt 96 (.pointer (some ⟨w.heap.size, 0, none⟩)) none (some (.int .i64 (Lib.nDigits u : Int))) none).run P W = .ok (.slice (some ⟨w.heap.size, 0, none⟩) (Lib.nDigits u) 24) W := fun W => by
      rw [run_sliceAt_array_h W 96 ⟨w.heap.size, 0, none⟩ (by simp [Program.arrayLen, Program.elem, t_7]) .i64 (Lib.nDigits u : Int) (by omega) (by rw [hal]; omega)]
      go_simp
    have hH0 := holds_zero0 w 96 (Lib.nDigits u) (by omega)
    have hfmt := c_fmt w.heap.size 0 24 u (Array.replicate (Lib.nDigits u) 0) (w.alloc (.cells Lib.zeros24 96)) hH0 (by rw [Array.size_replicate]; exact Lib.lt_pow_nDigits u) hu64 (by rw [Array.size_replicate]; omega)
    rw [Array.size_replicate] at hfmt
    have HH0 := Lib.hid hH0
    clear hH0 hal
    go_enter hfn, Tryd.ntmps46
    go_wp2_with (first
      | (go_at_fn 62; refine (c_num u hu1 hu64 _ (Lib.tabIs_alloc htab _)).mono ?_; rintro e w' ⟨rfl, rfl⟩))
    go_at_fn 63
    refine hfmt.mono ?_
    rintro e w' ⟨rfl, k, v', dk, rfl, hF⟩
    have hcv : (convert 22 9 (.slice (some ⟨w.heap.size, 0, none⟩) (Lib.nDigits u) 24)).run P ((putRow (fun (b : UInt8) => Value.int .u8 (b.toNat : Int)) (w.alloc (.cells Lib.zeros24 96)) w.heap.size 0 dk).drewN k) = .ok (.string ⟨(Lib.decDigits u).toArray⟩) ((putRow (fun (b : UInt8) => Value.int .u8 (b.toNat : Int)) (w.alloc (.cells Lib.zeros24 96)) w.heap.size 0 dk).drewN k) := by
      have h := run_convert_bytes_back (P := P) ((putRow (fun (b : UInt8) => Value.int .u8 (b.toNat : Int)) (w.alloc (.cells Lib.zeros24 96)) w.heap.size 0 dk).drewN k) 22 9 5 ⟨w.heap.size, 0, none⟩ 24 (Lib.decDigits u) t_6 t_3 t_4 (fun j hj => by
        rw [Lib.row_is_numeral hF j hj, Lib.add_plain, World.cell?_drewN]
        exact cell?_putRow (fun (b : UInt8) => Value.int .u8 (b.toNat : Int)) _ w.heap.size 0 _ dk HH0.out (by rw [hF.size, Array.size_replicate]) j (by rw [hF.size]; rw [Lib.decDigits_length] at hj; exact hj))
      rw [Lib.decDigits_length] at h
      exact h
    go_wp2
    go_ret
    obtain ⟨os, eo⟩ := fin_pos0 w (.cells Lib.zeros24 96) dk k
    exact ⟨rfl, k, os, eo⟩

theorem callable_fmt : ∃ fn, cx.P.funcs[46]? = some fn ∧ fn.body.isSome = true ∧ (fn.name == "runtime.NumGoroutine") = false := callable_of Tryd.func46 (by kernel_rfl) (by kernel_rfl)

theorem a_fmt_inner (u : Nat) (hu : u < 18446744073709551616) : APure cx 46 [.int .u64 ((u : Nat) : Int), .int .i64 10] (.str (Lib.decDigits u)) :=
  apure_shelf (vs := [.int .u64 u, .int .i64 10]) callable_fmt rfl fun w im0 hG => by
    have ht : Lib.TabIs Tryd.prog w "internal/strconv.uint64pow10" .u64 Lib.pow10Tab := GL.tab (E := env0 w im0) (by kernel_rfl) (hG 2 _ rfl)
    refine (fmt_inner u hu w ht).mono fun e w' h => ?_
    obtain ⟨rfl, k, os, rfl⟩ := h
    exact ⟨_, rfl, grown_grow w k os, .str _ _ rfl⟩

set_option linter.unusedSimpArgs false
set_option linter.unusedVariables false
set_option maxHeartbeats 4000000
set_option maxRecDepth 100000
attribute [local irreducible] aC aL thenQ blockQ scopeQ ALoop AWp
theorem a_fmt (u : Nat) (hu : u < 18446744073709551616) : APure cx 32 [.int .u64 ((u : Nat) : Int), .int .i64 10] (.str (Lib.decDigits u)) := by
  have h := a_fmt_inner u hu
  refine pure_fn cxOk Tryd.func32 (by kernel_rfl) (fun _ => false) (fun _ => none) (by kernel_rfl) (Nat.le_of_ble_eq_true (by kernel_rfl)) ?_
  dsimp only [LB, Tryd.f32, lite, nextOf, Option.isNone, Bool.not_true, Bool.not_false, Bool.and_true, Bool.true_and, Bool.false_and, Bool.and_self, Bool.false_eq_true, if_false, if_true, ↓reduceIte, liteO, List.map, Option.map, frame0, List.zipIdx, Nat.reduceAdd]
  try simp only [List.getElem?_toArray, List.getElem?_cons_succ, List.getElem?_cons_zero, Option.bind_some]
  repeat' (first
    | refine aC_seq ?_
    | refine aC_reg rfl ?_
    | refine aC_ret ?_
    | refine thenQ_normal ?_
    | refine aL_nil ?_
    | (apply aL_step; (· exact True.intro); (· simp (disch := first | omega | (simp only [go_sem]; omega)) only [go_sem, get_miss, seval, reduceCtorEq]); (· simp (disch := first | omega | (simp only [go_sem]; omega)) only [go_sem, get_miss, seval, reduceCtorEq] <;> with_reducible rfl); (· simp only [go_sem] <;> with_reducible rfl))
    | (apply aL_pure cxG (h); (case hg => (simp (disch := first | omega | (simp only [go_sem]; omega)) only [go_sem, get_miss, seval, reduceCtorEq])); (case hx => (simp (disch := first | omega | (simp only [go_sem]; omega)) only [go_sem, get_miss, seval, reduceCtorEq] <;> with_reducible rfl)); (case ha => (simp (disch := first | omega | (simp only [go_sem]; omega)) only [go_sem, get_miss, seval, reduceCtorEq] <;> with_reducible rfl)); (case he => (simp only [go_sem] <;> with_reducible rfl)); (case hcl => (simp)); (case hf => (simp only [go_sem] <;> with_reducible rfl)))
    | fail)
  all_goals try (first | exact True.intro | exact not_false | omega)
  all_goals try (simp (disch := first | omega | (simp only [go_sem]; omega)) only [go_sem, get_miss, seval, reduceCtorEq] <;> first | exact True.intro | omega)
  all_goals try (simp (disch := first | omega | (simp only [go_sem]; omega)) only [go_sem, get_miss, seval, reduceCtorEq])
  all_goals try simp
end Go.Am
