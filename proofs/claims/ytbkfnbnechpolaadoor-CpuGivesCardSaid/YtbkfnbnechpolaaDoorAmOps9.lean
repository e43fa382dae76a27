/- The abstract layer: operations on values alone. -/
import Derived.Test.YtbkfnbnechpolaaDoorAmOps8
set_option linter.unusedVariables false
set_option linter.unusedSimpArgs false
namespace Go.Am
open Go

noncomputable section
open Classical

/-- One scalar's kind. -/
inductive SK : AVal → AVal → Prop
  | int (k : IntKind) (a b : Int) : SK (.int k a) (.int k b)
  | bool (a b : Bool) : SK (.bool a) (.bool b)
  | str (a b : List UInt8) : SK (.str a) (.str b)

def intBin (op : BinOp) (k : IntKind) (a b : Int) : Option (Prop × AVal) :=
  match op with
  | .add => some (True, .int k (k.wrap (a + b)))
  | .sub => some (True, .int k (k.wrap (a - b)))
  | .mul => some (True, .int k (k.wrap (a * b)))
  | .quo => some (b ≠ 0, .int k (k.wrap (a.tdiv b)))
  | .rem => some (b ≠ 0, .int k (a.tmod b))
  | .and => some (True, .int k (bits .and k a b))
  | .or => some (True, .int k (bits .or k a b))
  | .xor => some (True, .int k (bits .xor k a b))
  | .andNot => some (True, .int k (bits .andNot k a b))
  | .eql => some (True, .bool (a == b))
  | .neq => some (True, .bool (a != b))
  | .lss => some (True, .bool (decide (a < b)))
  | .leq => some (True, .bool (decide (a ≤ b)))
  | .gtr => some (True, .bool (decide (a > b)))
  | .geq => some (True, .bool (decide (a ≥ b)))
  | _ => none

def strBin (op : BinOp) (a b : List UInt8) : Option (Prop × AVal) :=
  match op with
  | .add => some (a.length + b.length ≤ maxLen, .str (a ++ b))
  | .eql => some (True, .bool (a == b))
  | .neq => some (True, .bool (!(a == b)))
  | .lss => some (True, .bool (Op.bytesLess a b))
  | .leq => some (True, .bool (Op.bytesLess a b || a == b))
  | .gtr => some (True, .bool (!(Op.bytesLess a b || a == b)))
  | .geq => some (True, .bool (!(Op.bytesLess a b)))
  | _ => none

section
variable {P : Program} {G : Nat → Option AVal} {E : Env}

theorem run_binOp_int {op : BinOp} {k : IntKind} {a b : Int} {sd : Prop} {r : AVal} (h : intBin op k a b = some (sd, r)) (hsd : sd) (t : TypeId) (w : World) :
    ∃ x, (binOp op t (.int k a) (.int k b)).run P w = .ok x w ∧ ∀ E, R E r x := by
  cases op <;> simp only [intBin, Option.some.injEq, Prod.mk.injEq, reduceCtorEq] at h
  case quo =>
    obtain ⟨rfl, rfl⟩ := h
    refine ⟨.int k (k.wrap (a.tdiv b)), ?_, fun E => .int _ _⟩
    simp only [binOp, Op.intDiv, ne_eq, not_true_eq_false, if_false]
    rw [if_neg hsd]; rfl
  case rem =>
    obtain ⟨rfl, rfl⟩ := h
    refine ⟨.int k (a.tmod b), ?_, fun E => .int _ _⟩
    simp only [binOp, Op.intDiv, ne_eq, not_true_eq_false, if_false]
    rw [if_neg hsd]; rfl
  all_goals
    obtain ⟨rfl, rfl⟩ := h
    first
      | (refine ⟨_, ?_, fun E => .int _ _⟩
         simp only [binOp, Op.intArith, ne_eq, not_true_eq_false, if_false, Sem.run_pure]
         done)
      | (refine ⟨_, ?_, fun E => .bool _⟩
         simp only [binOp, Op.intCmp, ne_eq, not_true_eq_false, if_false, Sem.run_pure]
         done)
      | (refine ⟨_, ?_, fun E => .int _ _⟩
         simp only [binOp, Op.intBits, ne_eq, not_true_eq_false, if_false, Sem.run_pure]
         rfl)

theorem run_binOp_str {op : BinOp} {a b : List UInt8} {x y : Value} {sd : Prop} {r : AVal} (h : strBin op a b = some (sd, r)) (hsd : sd) (hx : R E (.str a) x) (hy : R E (.str b) y) (t : TypeId) :
    ∃ z, (binOp op t x y).run P E.w = .ok z E.w ∧ R E r z := by
  cases hx with
  | str s _ h1 =>
    cases hy with
    | str u _ h2 =>
      have hs : ∀ b : ByteArray, b.toList = b.data.toList := fun b => ByteArray.toList_eq b
      cases op <;> simp only [strBin, Option.some.injEq, Prod.mk.injEq, reduceCtorEq] at h
      case add =>
        obtain ⟨rfl, rfl⟩ := h
        have : ¬ (((s.size + u.size : Nat) : Int) > IntKind.i64.max) := by
          have e1 : s.size = a.length := by rw [← h1]; rfl
          have e2 : u.size = b.length := by rw [← h2]; rfl
          have e3 : IntKind.i64.max = 9223372036854775807 := rfl
          simp only [maxLen] at hsd
          omega
        refine ⟨.string (s ++ u), ?_, .str _ _ (by simp [h1, h2])⟩
        simp only [binOp, Op.stringOp, this, if_false]
        rfl
      all_goals
        obtain ⟨rfl, rfl⟩ := h
        refine ⟨_, ?_, .bool _⟩
        simp only [binOp, Op.stringOp, hs, h1, h2, Sem.run_pure]
end
end
end Go.Am
