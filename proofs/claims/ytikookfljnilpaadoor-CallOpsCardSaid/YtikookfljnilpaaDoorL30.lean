/- call.Op at the names of the table, by the kernel. -/
import Derived.Test.YtikookfljnilpaaDoorL01
set_option linter.unusedVariables false
set_option linter.unusedSimpArgs false
namespace Go.Am
open Go Go.Proofs
set_option maxRecDepth 100000
theorem call_Op1 : APure cx 15 [.str [100, 101, 108, 101, 103, 97, 116, 101]] (.int .i64 1) :=
  xPure_ok tabOk 1000 (e := fe15) (by kernel_rfl) (Nat.le_of_ble_eq_true (by kernel_rfl)) (by kernel_rfl)
theorem call_Op2 : APure cx 15 [.str [117, 110, 100, 101, 108, 101, 103, 97, 116, 101]] (.int .i64 2) :=
  xPure_ok tabOk 1000 (e := fe15) (by kernel_rfl) (Nat.le_of_ble_eq_true (by kernel_rfl)) (by kernel_rfl)
theorem call_Op3 : APure cx 15 [.str [114, 101, 97, 108, 109]] (.int .i64 3) :=
  xPure_ok tabOk 1000 (e := fe15) (by kernel_rfl) (Nat.le_of_ble_eq_true (by kernel_rfl)) (by kernel_rfl)
theorem call_Op4 : APure cx 15 [.str [97, 99, 116, 105, 118, 97, 116, 101]] (.int .i64 4) :=
  xPure_ok tabOk 1000 (e := fe15) (by kernel_rfl) (Nat.le_of_ble_eq_true (by kernel_rfl)) (by kernel_rfl)
theorem call_Op5 : APure cx 15 [.str [107, 105, 108, 108]] (.int .i64 5) :=
  xPure_ok tabOk 1000 (e := fe15) (by kernel_rfl) (Nat.le_of_ble_eq_true (by kernel_rfl)) (by kernel_rfl)
theorem call_Op6 : APure cx 15 [.str [101, 110, 100]] (.int .i64 6) :=
  xPure_ok tabOk 1000 (e := fe15) (by kernel_rfl) (Nat.le_of_ble_eq_true (by kernel_rfl)) (by kernel_rfl)
theorem call_Op7 : APure cx 15 [.str [116, 97, 98, 108, 101]] (.int .i64 7) :=
  xPure_ok tabOk 1000 (e := fe15) (by kernel_rfl) (Nat.le_of_ble_eq_true (by kernel_rfl)) (by kernel_rfl)
theorem call_Op8 : APure cx 15 [.str [117, 110, 116, 97, 98, 108, 101]] (.int .i64 8) :=
  xPure_ok tabOk 1000 (e := fe15) (by kernel_rfl) (Nat.le_of_ble_eq_true (by kernel_rfl)) (by kernel_rfl)
theorem call_Op9 : APure cx 15 [.str [102, 111, 108, 100]] (.int .i64 9) :=
  xPure_ok tabOk 1000 (e := fe15) (by kernel_rfl) (Nat.le_of_ble_eq_true (by kernel_rfl)) (by kernel_rfl)
theorem call_Op10 : APure cx 15 [.str [100, 97, 116, 97]] (.int .i64 10) :=
  xPure_ok tabOk 1000 (e := fe15) (by kernel_rfl) (Nat.le_of_ble_eq_true (by kernel_rfl)) (by kernel_rfl)
theorem call_Op11 : APure cx 15 [.str [122, 101, 114, 111]] (.int .i64 11) :=
  xPure_ok tabOk 1000 (e := fe15) (by kernel_rfl) (Nat.le_of_ble_eq_true (by kernel_rfl)) (by kernel_rfl)
theorem call_Op12 : APure cx 15 [.str [100, 101, 115, 116, 114, 111, 121]] (.int .i64 12) :=
  xPure_ok tabOk 1000 (e := fe15) (by kernel_rfl) (Nat.le_of_ble_eq_true (by kernel_rfl)) (by kernel_rfl)
theorem call_Op13 : APure cx 15 [.str [115, 104, 97, 114, 101]] (.int .i64 13) :=
  xPure_ok tabOk 1000 (e := fe15) (by kernel_rfl) (Nat.le_of_ble_eq_true (by kernel_rfl)) (by kernel_rfl)
theorem call_Op14 : APure cx 15 [.str [117, 110, 115, 104, 97, 114, 101]] (.int .i64 14) :=
  xPure_ok tabOk 1000 (e := fe15) (by kernel_rfl) (Nat.le_of_ble_eq_true (by kernel_rfl)) (by kernel_rfl)
theorem call_Op15 : APure cx 15 [.str [114, 101, 99]] (.int .i64 15) :=
  xPure_ok tabOk 1000 (e := fe15) (by kernel_rfl) (Nat.le_of_ble_eq_true (by kernel_rfl)) (by kernel_rfl)
theorem call_Op16 : APure cx 15 [.str [117, 110, 114, 101, 99]] (.int .i64 16) :=
  xPure_ok tabOk 1000 (e := fe15) (by kernel_rfl) (Nat.le_of_ble_eq_true (by kernel_rfl)) (by kernel_rfl)
theorem call_Op17 : APure cx 15 [.str [101, 110, 116, 101, 114]] (.int .i64 17) :=
  xPure_ok tabOk 1000 (e := fe15) (by kernel_rfl) (Nat.le_of_ble_eq_true (by kernel_rfl)) (by kernel_rfl)
theorem call_Op18 : APure cx 15 [.str [101, 120, 112, 111, 114, 116]] (.int .i64 18) :=
  xPure_ok tabOk 1000 (e := fe15) (by kernel_rfl) (Nat.le_of_ble_eq_true (by kernel_rfl)) (by kernel_rfl)
theorem call_Op19 : APure cx 15 [.str [105, 109, 112, 111, 114, 116]] (.int .i64 19) :=
  xPure_ok tabOk 1000 (e := fe15) (by kernel_rfl) (Nat.le_of_ble_eq_true (by kernel_rfl)) (by kernel_rfl)
theorem call_Op20 : APure cx 15 [.str [108, 111, 111, 107]] (.int .i64 20) :=
  xPure_ok tabOk 1000 (e := fe15) (by kernel_rfl) (Nat.le_of_ble_eq_true (by kernel_rfl)) (by kernel_rfl)
theorem call_Op21 : APure cx 15 [.str [114, 111, 119]] (.int .i64 21) :=
  xPure_ok tabOk 1000 (e := fe15) (by kernel_rfl) (Nat.le_of_ble_eq_true (by kernel_rfl)) (by kernel_rfl)
theorem call_Op {op : Int} (h : 1 ≤ op ∧ op ≤ 21) : APure cx 15 [.str (cnm op)] (.int .i64 op) := by
  rcases op_cases op with (rfl | rfl | rfl | rfl | rfl | rfl | rfl | rfl | rfl | rfl | rfl | rfl | rfl | rfl | rfl | rfl | rfl | rfl | rfl | rfl | rfl) | h'
  · rw [show cnm 1 = [100, 101, 108, 101, 103, 97, 116, 101] by kernel_rfl]; exact call_Op1
  · rw [show cnm 2 = [117, 110, 100, 101, 108, 101, 103, 97, 116, 101] by kernel_rfl]; exact call_Op2
  · rw [show cnm 3 = [114, 101, 97, 108, 109] by kernel_rfl]; exact call_Op3
  · rw [show cnm 4 = [97, 99, 116, 105, 118, 97, 116, 101] by kernel_rfl]; exact call_Op4
  · rw [show cnm 5 = [107, 105, 108, 108] by kernel_rfl]; exact call_Op5
  · rw [show cnm 6 = [101, 110, 100] by kernel_rfl]; exact call_Op6
  · rw [show cnm 7 = [116, 97, 98, 108, 101] by kernel_rfl]; exact call_Op7
  · rw [show cnm 8 = [117, 110, 116, 97, 98, 108, 101] by kernel_rfl]; exact call_Op8
  · rw [show cnm 9 = [102, 111, 108, 100] by kernel_rfl]; exact call_Op9
  · rw [show cnm 10 = [100, 97, 116, 97] by kernel_rfl]; exact call_Op10
  · rw [show cnm 11 = [122, 101, 114, 111] by kernel_rfl]; exact call_Op11
  · rw [show cnm 12 = [100, 101, 115, 116, 114, 111, 121] by kernel_rfl]; exact call_Op12
  · rw [show cnm 13 = [115, 104, 97, 114, 101] by kernel_rfl]; exact call_Op13
  · rw [show cnm 14 = [117, 110, 115, 104, 97, 114, 101] by kernel_rfl]; exact call_Op14
  · rw [show cnm 15 = [114, 101, 99] by kernel_rfl]; exact call_Op15
  · rw [show cnm 16 = [117, 110, 114, 101, 99] by kernel_rfl]; exact call_Op16
  · rw [show cnm 17 = [101, 110, 116, 101, 114] by kernel_rfl]; exact call_Op17
  · rw [show cnm 18 = [101, 120, 112, 111, 114, 116] by kernel_rfl]; exact call_Op18
  · rw [show cnm 19 = [105, 109, 112, 111, 114, 116] by kernel_rfl]; exact call_Op19
  · rw [show cnm 20 = [108, 111, 111, 107] by kernel_rfl]; exact call_Op20
  · rw [show cnm 21 = [114, 111, 119] by kernel_rfl]; exact call_Op21
  omega
end Go.Am
