/- Places of fields. -/
import Derived.Test.YtbkfnbnechpolaaDoorC11
set_option linter.unusedVariables false
set_option linter.unusedSimpArgs false
namespace Go.Am
open Go Go.Proofs
theorem PL41_0 : placeOf cx.T ⟨(.struct #[⟨ "Kind", 39, 0, false, "", "", 0⟩, ⟨ "Number", 3, 1, false, "", "", 8⟩]), 2, 16, [(.int .i64 0), (.int .i64 0)]⟩ 0 = some (0, 1) := by kernel_rfl
attribute [go_sem] PL41_0
theorem PL41_1 : placeOf cx.T ⟨(.struct #[⟨ "Kind", 39, 0, false, "", "", 0⟩, ⟨ "Number", 3, 1, false, "", "", 8⟩]), 2, 16, [(.int .i64 0), (.int .i64 0)]⟩ 1 = some (1, 1) := by kernel_rfl
attribute [go_sem] PL41_1
theorem PL46_0 : placeOf cx.T ⟨(.struct #[⟨ "Kind", 44, 0, false, "", "", 0⟩, ⟨ "Addr", 22, 1, false, "", "", 8⟩, ⟨ "Word", 22, 2, false, "", "", 16⟩]), 3, 24, [(.int .i64 0), (.int .u64 0), (.int .u64 0)]⟩ 0 = some (0, 1) := by kernel_rfl
attribute [go_sem] PL46_0
theorem PL46_1 : placeOf cx.T ⟨(.struct #[⟨ "Kind", 44, 0, false, "", "", 0⟩, ⟨ "Addr", 22, 1, false, "", "", 8⟩, ⟨ "Word", 22, 2, false, "", "", 16⟩]), 3, 24, [(.int .i64 0), (.int .u64 0), (.int .u64 0)]⟩ 1 = some (1, 1) := by kernel_rfl
attribute [go_sem] PL46_1
theorem PL46_2 : placeOf cx.T ⟨(.struct #[⟨ "Kind", 44, 0, false, "", "", 0⟩, ⟨ "Addr", 22, 1, false, "", "", 8⟩, ⟨ "Word", 22, 2, false, "", "", 16⟩]), 3, 24, [(.int .i64 0), (.int .u64 0), (.int .u64 0)]⟩ 2 = some (2, 1) := by kernel_rfl
attribute [go_sem] PL46_2
attribute [go_sem] ne_eq not_true_eq_false or_false or_self if_false
end Go.Am
