/- The seat's types and functions, as tables. Printed by a program. -/
import Derived.Test.YtikookfljnilpaaDoorProg
import Derived.Test.YtikookfljnilpaaDoorAmShelf
import Derived.Lib.ItoaNum
import Derived.KernelRfl
set_option linter.unusedVariables false
set_option linter.unusedSimpArgs false
namespace Go.Am
open Go Go.Proofs
set_option maxRecDepth 100000
def ti1 : TI := ⟨(.func #[] #[] false), 1, 8, [.nilfn]⟩
def ti2 : TI := ⟨(.int .i64), 1, 8, [(.int .i64 0)]⟩
def ti3 : TI := ⟨(.int .i64), 1, 8, [(.int .i64 0)]⟩
def ti4 : TI := ⟨.bool, 1, 1, [(.bool false)]⟩
def ti5 : TI := ⟨(.int .u8), 1, 1, [(.int .u8 0)]⟩
def ti6 : TI := ⟨(.int .u8), 1, 1, [(.int .u8 0)]⟩
def ti7 : TI := ⟨(.struct #[⟨ "x", 2, 0, false, "", "runtime", 0⟩, ⟨ "y", 3, 1, false, "", "runtime", 8⟩, ⟨ "signed", 4, 2, false, "", "runtime", 16⟩, ⟨ "code", 6, 3, false, "", "runtime", 17⟩]), 4, 24, [(.int .i64 0), (.int .i64 0), (.bool false), (.int .u8 0)]⟩
def ti8 : TI := ⟨(.struct #[⟨ "x", 2, 0, false, "", "runtime", 0⟩, ⟨ "y", 3, 1, false, "", "runtime", 8⟩, ⟨ "signed", 4, 2, false, "", "runtime", 16⟩, ⟨ "code", 6, 3, false, "", "runtime", 17⟩]), 4, 24, [(.int .i64 0), (.int .i64 0), (.bool false), (.int .u8 0)]⟩
def ti9 : TI := ⟨.string, 1, 16, [(.str [])]⟩
def ti10 : TI := ⟨.string, 1, 16, [(.str [])]⟩
def ti11 : TI := ⟨.string, 1, 16, [(.str [])]⟩
def ti12 : TI := ⟨(.int .u64), 1, 8, [(.int .u64 0)]⟩
def ti13 : TI := ⟨(.struct #[⟨ "msg", 9, 0, false, "", "runtime", 0⟩, ⟨ "addr", 12, 1, false, "", "runtime", 16⟩]), 2, 24, [(.str []), (.int .u64 0)]⟩
def ti14 : TI := ⟨(.struct #[⟨ "msg", 9, 0, false, "", "runtime", 0⟩, ⟨ "addr", 12, 1, false, "", "runtime", 16⟩]), 2, 24, [(.str []), (.int .u64 0)]⟩
def ti15 : TI := ⟨(.pointer 154), 1, 8, [.nilp]⟩
def ti16 : TI := ⟨(.pointer 157), 1, 8, [.nilp]⟩
def ti17 : TI := ⟨(.pointer 165), 1, 8, [.nilp]⟩
def ti18 : TI := ⟨(.struct #[⟨ "typ", 17, 0, false, "", "internal/runtime/maps", 0⟩]), 1, 8, [.nilp]⟩
def ti19 : TI := ⟨(.struct #[⟨ "typ", 17, 0, false, "", "internal/runtime/maps", 0⟩]), 1, 8, [.nilp]⟩
def ti20 : TI := ⟨(.interface #[]), 1, 16, [.nilifc]⟩
def ti21 : TI := ⟨(.int .i32), 1, 4, [(.int .i32 0)]⟩
def ti22 : TI := ⟨(.slice 29), 1, 24, [(.sl 1 true [] .any)]⟩
def ti23 : TI := ⟨(.func #[] #[4] false), 1, 8, [.nilfn]⟩
def ti24 : TI := ⟨(.func #[25] #[9] false), 1, 8, [.nilfn]⟩
def ti25 : TI := ⟨(.int .i64), 1, 8, [(.int .i64 0)]⟩
def ti26 : TI := ⟨(.func #[25] #[3] false), 1, 8, [.nilfn]⟩
def ti27 : TI := ⟨(.func #[9] #[25] false), 1, 8, [.nilfn]⟩
def ti28 : TI := ⟨(.func #[3] #[4] false), 1, 8, [.nilfn]⟩
def ti29 : TI := ⟨(.int .u64), 1, 8, [(.int .u64 0)]⟩
def ti30 : TI := ⟨(.array 6 29), 6, 48, [(.int .u64 0), (.int .u64 0), (.int .u64 0), (.int .u64 0), (.int .u64 0), (.int .u64 0)]⟩
def ti31 : TI := ⟨(.struct #[⟨ "Op", 25, 0, false, "", "", 0⟩, ⟨ "Args", 30, 1, false, "", "", 8⟩]), 7, 56, [(.int .i64 0), (.int .u64 0), (.int .u64 0), (.int .u64 0), (.int .u64 0), (.int .u64 0), (.int .u64 0)]⟩
def ti32 : TI := ⟨(.struct #[⟨ "Op", 25, 0, false, "", "", 0⟩, ⟨ "Args", 30, 1, false, "", "", 8⟩]), 7, 56, [(.int .i64 0), (.int .u64 0), (.int .u64 0), (.int .u64 0), (.int .u64 0), (.int .u64 0), (.int .u64 0)]⟩
def ti33 : TI := ⟨(.int .i64), 1, 8, [(.int .i64 0)]⟩
def ti35 : TI := ⟨(.func #[25, 22] #[32, 33] true), 1, 8, [.nilfn]⟩
def ti36 : TI := ⟨(.func #[33] #[3] false), 1, 8, [.nilfn]⟩
def ti37 : TI := ⟨(.func #[3, 9, 22, 3] #[4] false), 1, 8, [.nilfn]⟩
def ti38 : TI := ⟨(.slice 5), 1, 24, [(.sl 1 true [] .any)]⟩
def ti40 : TI := ⟨(.func #[32] #[38, 33] false), 1, 8, [.nilfn]⟩
def ti42 : TI := ⟨(.func #[32] #[9, 33] false), 1, 8, [.nilfn]⟩
def ti43 : TI := ⟨(.func #[32] #[4] false), 1, 8, [.nilfn]⟩
def ti44 : TI := ⟨(.func #[38, 38] #[4] false), 1, 8, [.nilfn]⟩
def ti45 : TI := ⟨(.func #[32] #[38] false), 1, 8, [.nilfn]⟩
def ti46 : TI := ⟨(.func #[32] #[9] false), 1, 8, [.nilfn]⟩
def ti47 : TI := ⟨(.func #[38] #[32, 33] false), 1, 8, [.nilfn]⟩
def ti49 : TI := ⟨(.func #[38] #[32, 4] false), 1, 8, [.nilfn]⟩
def ti50 : TI := ⟨(.func #[9] #[32, 33] false), 1, 8, [.nilfn]⟩
def ti51 : TI := ⟨(.func #[9] #[32, 4] false), 1, 8, [.nilfn]⟩
def ti52 : TI := ⟨(.func #[38, 9] #[4] false), 1, 8, [.nilfn]⟩
def ti53 : TI := ⟨(.func #[54] #[9, 33] true), 1, 8, [.nilfn]⟩
def ti54 : TI := ⟨(.slice 32), 1, 24, [(.sl 1 true [] .any)]⟩
def ti56 : TI := ⟨(.func #[9] #[54, 3, 33] false), 1, 8, [.nilfn]⟩
def ti58 : TI := ⟨(.func #[9] #[54, 3, 3] false), 1, 8, [.nilfn]⟩
def ti59 : TI := ⟨(.func #[54, 54] #[4] false), 1, 8, [.nilfn]⟩
def ti60 : TI := ⟨(.func #[54] #[9] false), 1, 8, [.nilfn]⟩
def ti61 : TI := ⟨(.func #[54, 9] #[4] false), 1, 8, [.nilfn]⟩
def ti62 : TI := ⟨(.func #[9, 3, 3] #[4] false), 1, 8, [.nilfn]⟩
def ti63 : TI := ⟨(.func #[32, 54, 9] #[4] false), 1, 8, [.nilfn]⟩
def ti64 : TI := ⟨(.struct #[⟨ "name", 9, 0, false, "", "anchorite/call", 0⟩, ⟨ "arity", 3, 1, false, "", "anchorite/call", 16⟩]), 2, 24, [(.str []), (.int .i64 0)]⟩
def ti65 : TI := ⟨(.struct #[⟨ "name", 9, 0, false, "", "anchorite/call", 0⟩, ⟨ "arity", 3, 1, false, "", "anchorite/call", 16⟩]), 2, 24, [(.str []), (.int .i64 0)]⟩
def ti66 : TI := ⟨(.map 25 65), 1, 8, [.nilmap]⟩
def ti67 : TI := ⟨(.func #[] #[66] false), 1, 8, [.nilfn]⟩
def ti68 : TI := ⟨(.func #[25] #[4] false), 1, 8, [.nilfn]⟩
def ti69 : TI := ⟨(.slice 9), 1, 24, [(.sl 1 true [] .any)]⟩
def ti70 : TI := ⟨(.func #[] #[69] false), 1, 8, [.nilfn]⟩
def ti72 : TI := ⟨(.slice 3), 1, 24, [(.sl 1 true [] .any)]⟩
def ti73 : TI := ⟨(.func #[] #[72] false), 1, 8, [.nilfn]⟩
def ti74 : TI := ⟨(.func #[99] #[] false), 1, 8, [.nilfn]⟩
def ti75 : TI := ⟨(.func #[99] #[] false), 1, 8, [.nilfn]⟩
def ti76 : TI := ⟨(.func #[] #[75] false), 1, 8, [.nilfn]⟩
def ti77 : TI := ⟨(.func #[29, 3] #[38, 33] false), 1, 8, [.nilfn]⟩
def ti78 : TI := ⟨(.func #[32, 66] #[4] false), 1, 8, [.nilfn]⟩
def ti79 : TI := ⟨(.func #[32, 66] #[9] false), 1, 8, [.nilfn]⟩
def ti80 : TI := ⟨(.func #[29, 3] #[38] false), 1, 8, [.nilfn]⟩
def ti81 : TI := ⟨(.func #[29, 3] #[9] false), 1, 8, [.nilfn]⟩
def ti82 : TI := ⟨(.func #[38, 3] #[29] false), 1, 8, [.nilfn]⟩
def ti83 : TI := ⟨(.func #[38] #[29] false), 1, 8, [.nilfn]⟩
def ti84 : TI := ⟨(.func #[9, 66] #[32, 4] false), 1, 8, [.nilfn]⟩
def ti85 : TI := ⟨(.func #[9, 5] #[69] false), 1, 8, [.nilfn]⟩
def ti86 : TI := ⟨(.func #[54, 43] #[4] false), 1, 8, [.nilfn]⟩
def ti87 : TI := ⟨(.pointer 89), 1, 8, [.nilp]⟩
def ti88 : TI := ⟨(.struct #[⟨ "addr", 87, 0, false, "", "strings", 0⟩, ⟨ "buf", 38, 1, false, "", "strings", 8⟩]), 2, 32, [.nilp, (.sl 1 true [] .any)]⟩
def ti89 : TI := ⟨(.struct #[⟨ "addr", 87, 0, false, "", "strings", 0⟩, ⟨ "buf", 38, 1, false, "", "strings", 8⟩]), 2, 32, [.nilp, (.sl 1 true [] .any)]⟩
def ti90 : TI := ⟨(.interface #[("Error", 94)]), 1, 16, [.nilifc]⟩
def ti91 : TI := ⟨(.interface #[("Error", 94)]), 1, 16, [.nilifc]⟩
def ti93 : TI := ⟨(.func #[9] #[3, 91] false), 1, 8, [.nilfn]⟩
def ti94 : TI := ⟨(.func #[] #[9] false), 1, 8, [.nilfn]⟩
def ti95 : TI := ⟨(.func #[9, 9] #[3] false), 1, 8, [.nilfn]⟩
def ti96 : TI := ⟨(.func #[9, 9] #[4] false), 1, 8, [.nilfn]⟩
def ti98 : TI := ⟨(.func #[9, 9] #[9, 9, 4] false), 1, 8, [.nilfn]⟩
def ti99 : TI := ⟨(.func #[25, 9] #[4] false), 1, 8, [.nilfn]⟩
def ti100 : TI := ⟨(.func #[22, 101] #[4] false), 1, 8, [.nilfn]⟩
def ti101 : TI := ⟨(.func #[29] #[4] false), 1, 8, [.nilfn]⟩
def ti102 : TI := ⟨(.func #[9, 9] #[69] false), 1, 8, [.nilfn]⟩
def ti104 : TI := ⟨(.func #[9, 3, 3] #[29, 91] false), 1, 8, [.nilfn]⟩
def ti105 : TI := ⟨(.func #[54, 43] #[3] false), 1, 8, [.nilfn]⟩
def ti106 : TI := ⟨(.pointer 5), 1, 8, [.nilp]⟩
def ti107 : TI := ⟨(.func #[9] #[3] false), 1, 8, [.nilfn]⟩
def ti108 : TI := ⟨(.func #[9, 5] #[3] false), 1, 8, [.nilfn]⟩
def ti109 : TI := ⟨(.func #[22, 101] #[3] false), 1, 8, [.nilfn]⟩
def ti110 : TI := ⟨(.func #[3] #[9] false), 1, 8, [.nilfn]⟩
def ti111 : TI := ⟨(.array 24 5), 24, 24, bl (List.replicate 24 0)⟩
def ti112 : TI := ⟨(.func #[29] #[3] false), 1, 8, [.nilfn]⟩
def ti113 : TI := ⟨(.func #[38, 29] #[] false), 1, 8, [.nilfn]⟩
def ti115 : TI := ⟨(.func #[38, 29, 3, 4, 4] #[38, 9] false), 1, 8, [.nilfn]⟩
def ti116 : TI := ⟨(.func #[9, 9, 3, 3] #[69] false), 1, 8, [.nilfn]⟩
def ti117 : TI := ⟨(.func #[9, 9, 3, 3, 91] #[91] false), 1, 8, [.nilfn]⟩
def ti118 : TI := ⟨.unsafePointer, 1, 8, [.nilp]⟩
def ti119 : TI := ⟨(.func #[118] #[118] false), 1, 8, [.nilfn]⟩
def ti120 : TI := ⟨(.func #[3] #[3] false), 1, 8, [.nilfn]⟩
def ti121 : TI := ⟨(.func #[4] #[3] false), 1, 8, [.nilfn]⟩
def ti122 : TI := ⟨(.array 20 29), 20, 160, List.replicate 20 (.int .u64 0)⟩
def ti123 : TI := ⟨(.int .u32), 1, 4, [(.int .u32 0)]⟩
def ti124 : TI := ⟨(.array 65 5), 65, 65, bl (List.replicate 65 0)⟩
def ti125 : TI := ⟨(.int .u64), 1, 8, [(.int .u64 0)]⟩
def ti126 : TI := ⟨(.func #[125] #[3] false), 1, 8, [.nilfn]⟩
def ti127 : TI := ⟨(.func #[9, 3] #[69] false), 1, 8, [.nilfn]⟩
def ti128 : TI := ⟨(.int .i64), 1, 8, [(.int .i64 0)]⟩
def ti129 : TI := ⟨(.func #[5] #[5] false), 1, 8, [.nilfn]⟩
def ti130 : TI := ⟨(.func #[9] #[4] false), 1, 8, [.nilfn]⟩
def ti131 : TI := ⟨(.pointer 139), 1, 8, [.nilp]⟩
def ti132 : TI := ⟨(.func #[9, 9] #[131] false), 1, 8, [.nilfn]⟩
def ti133 : TI := ⟨(.func #[9, 9, 3] #[131] false), 1, 8, [.nilfn]⟩
def ti134 : TI := ⟨(.func #[123] #[3] false), 1, 8, [.nilfn]⟩
def ti136 : TI := ⟨(.func #[9] #[21, 3] false), 1, 8, [.nilfn]⟩
def ti137 : TI := ⟨(.func #[9] #[9] false), 1, 8, [.nilfn]⟩
def ti138 : TI := ⟨(.struct #[⟨ "Func", 9, 0, false, "", "", 0⟩, ⟨ "Num", 9, 1, false, "", "", 16⟩, ⟨ "Err", 91, 2, false, "", "", 32⟩]), 3, 48, [(.str []), (.str []), .nilifc]⟩
def ti139 : TI := ⟨(.struct #[⟨ "Func", 9, 0, false, "", "", 0⟩, ⟨ "Num", 9, 1, false, "", "", 16⟩, ⟨ "Err", 91, 2, false, "", "", 32⟩]), 3, 48, [(.str []), (.str []), .nilifc]⟩
def ti140 : TI := ⟨(.func #[9] #[91] false), 1, 8, [.nilfn]⟩
def ti142 : TI := ⟨(.func #[9] #[123, 123] false), 1, 8, [.nilfn]⟩
def ti143 : TI := ⟨(.array 32 5), 32, 32, bl (List.replicate 32 0)⟩
def ti144 : TI := ⟨(.array 64 5), 64, 64, bl (List.replicate 64 0)⟩
def ti145 : TI := ⟨(.pointer 147), 1, 8, [.nilp]⟩
def ti146 : TI := ⟨(.struct #[⟨ "s", 9, 0, false, "", "errors", 0⟩]), 1, 16, [(.str [])]⟩
def ti147 : TI := ⟨(.struct #[⟨ "s", 9, 0, false, "", "errors", 0⟩]), 1, 16, [(.str [])]⟩
def ti148 : TI := ⟨(.array 256 5), 256, 256, bl (List.replicate 256 0)⟩
def ti149 : TI := ⟨(.struct #[⟨ "lo", 5, 0, false, "", "unicode/utf8", 0⟩, ⟨ "hi", 5, 1, false, "", "unicode/utf8", 1⟩]), 2, 2, [(.int .u8 0), (.int .u8 0)]⟩
def ti150 : TI := ⟨(.struct #[⟨ "lo", 5, 0, false, "", "unicode/utf8", 0⟩, ⟨ "hi", 5, 1, false, "", "unicode/utf8", 1⟩]), 2, 2, [(.int .u8 0), (.int .u8 0)]⟩
def ti151 : TI := ⟨(.array 16 150), 32, 32, bl (List.replicate 32 0)⟩
def ti152 : TI := ⟨(.func #[2, 3] #[9] false), 1, 8, [.nilfn]⟩
def ti153 : TI := ⟨(.struct #[⟨ "_interface", 17, 0, false, "", "runtime", 0⟩, ⟨ "concrete", 17, 1, false, "", "runtime", 8⟩, ⟨ "asserted", 17, 2, false, "", "runtime", 16⟩, ⟨ "missingMethod", 9, 3, false, "", "runtime", 24⟩]), 4, 40, [.nilp, .nilp, .nilp, (.str [])]⟩
def ti154 : TI := ⟨(.struct #[⟨ "_interface", 17, 0, false, "", "runtime", 0⟩, ⟨ "concrete", 17, 1, false, "", "runtime", 8⟩, ⟨ "asserted", 17, 2, false, "", "runtime", 16⟩, ⟨ "missingMethod", 9, 3, false, "", "runtime", 24⟩]), 4, 40, [.nilp, .nilp, .nilp, (.str [])]⟩
def ti155 : TI := ⟨(.array 0 16), 0, 0, []⟩
def ti156 : TI := ⟨(.struct #[⟨ "_", 155, 0, false, "", "runtime", 0⟩]), 0, 0, []⟩
def ti157 : TI := ⟨(.struct #[⟨ "_", 155, 0, false, "", "runtime", 0⟩]), 0, 0, []⟩
def ti158 : TI := ⟨(.func #[] #[3] false), 1, 8, [.nilfn]⟩
def ti159 : TI := ⟨(.int .u8), 1, 1, [(.int .u8 0)]⟩
def ti160 : TI := ⟨(.int .u8), 1, 1, [(.int .u8 0)]⟩
def ti161 : TI := ⟨(.func #[118, 118] #[4] false), 1, 8, [.nilfn]⟩
def ti162 : TI := ⟨(.int .i32), 1, 4, [(.int .i32 0)]⟩
def ti163 : TI := ⟨(.int .i32), 1, 4, [(.int .i32 0)]⟩
def ti164 : TI := ⟨(.struct #[⟨ "Size_", 12, 0, false, "", "", 0⟩, ⟨ "PtrBytes", 12, 1, false, "", "", 8⟩, ⟨ "Hash", 123, 2, false, "", "", 16⟩, ⟨ "TFlag", 159, 3, false, "", "", 20⟩, ⟨ "Align_", 5, 4, false, "", "", 21⟩, ⟨ "FieldAlign_", 5, 5, false, "", "", 22⟩, ⟨ "Kind_", 160, 6, false, "", "", 23⟩, ⟨ "Equal", 161, 7, false, "", "", 24⟩, ⟨ "GCData", 106, 8, false, "", "", 32⟩, ⟨ "Str", 162, 9, false, "", "", 40⟩, ⟨ "PtrToThis", 163, 10, false, "", "", 44⟩]), 11, 48, [(.int .u64 0), (.int .u64 0), (.int .u32 0), (.int .u8 0), (.int .u8 0), (.int .u8 0), (.int .u8 0), .nilfn, .nilp, (.int .i32 0), (.int .i32 0)]⟩
def ti165 : TI := ⟨(.struct #[⟨ "Size_", 12, 0, false, "", "", 0⟩, ⟨ "PtrBytes", 12, 1, false, "", "", 8⟩, ⟨ "Hash", 123, 2, false, "", "", 16⟩, ⟨ "TFlag", 159, 3, false, "", "", 20⟩, ⟨ "Align_", 5, 4, false, "", "", 21⟩, ⟨ "FieldAlign_", 5, 5, false, "", "", 22⟩, ⟨ "Kind_", 160, 6, false, "", "", 23⟩, ⟨ "Equal", 161, 7, false, "", "", 24⟩, ⟨ "GCData", 106, 8, false, "", "", 32⟩, ⟨ "Str", 162, 9, false, "", "", 40⟩, ⟨ "PtrToThis", 163, 10, false, "", "", 44⟩]), 11, 48, [(.int .u64 0), (.int .u64 0), (.int .u32 0), (.int .u8 0), (.int .u8 0), (.int .u8 0), (.int .u8 0), .nilfn, .nilp, (.int .i32 0), (.int .i32 0)]⟩
def tT (t : TypeId) : Option TI := (bif Nat.blt t 84 then (bif Nat.blt t 42 then (bif Nat.blt t 20 then (bif Nat.blt t 10 then (bif Nat.blt t 5 then (bif Nat.blt t 3 then (bif Nat.blt t 2 then (bif Nat.blt t 1 then none else bif Nat.beq t 1 then some ti1 else none) else bif Nat.beq t 2 then some ti2 else none) else bif Nat.beq t 3 then some ti3 else (bif Nat.blt t 4 then none else bif Nat.beq t 4 then some ti4 else none)) else bif Nat.beq t 5 then some ti5 else (bif Nat.blt t 8 then (bif Nat.blt t 7 then (bif Nat.blt t 6 then none else bif Nat.beq t 6 then some ti6 else none) else bif Nat.beq t 7 then some ti7 else none) else bif Nat.beq t 8 then some ti8 else (bif Nat.blt t 9 then none else bif Nat.beq t 9 then some ti9 else none))) else bif Nat.beq t 10 then some ti10 else (bif Nat.blt t 15 then (bif Nat.blt t 13 then (bif Nat.blt t 12 then (bif Nat.blt t 11 then none else bif Nat.beq t 11 then some ti11 else none) else bif Nat.beq t 12 then some ti12 else none) else bif Nat.beq t 13 then some ti13 else (bif Nat.blt t 14 then none else bif Nat.beq t 14 then some ti14 else none)) else bif Nat.beq t 15 then some ti15 else (bif Nat.blt t 18 then (bif Nat.blt t 17 then (bif Nat.blt t 16 then none else bif Nat.beq t 16 then some ti16 else none) else bif Nat.beq t 17 then some ti17 else none) else bif Nat.beq t 18 then some ti18 else (bif Nat.blt t 19 then none else bif Nat.beq t 19 then some ti19 else none)))) else bif Nat.beq t 20 then some ti20 else (bif Nat.blt t 30 then (bif Nat.blt t 25 then (bif Nat.blt t 23 then (bif Nat.blt t 22 then (bif Nat.blt t 21 then none else bif Nat.beq t 21 then some ti21 else none) else bif Nat.beq t 22 then some ti22 else none) else bif Nat.beq t 23 then some ti23 else (bif Nat.blt t 24 then none else bif Nat.beq t 24 then some ti24 else none)) else bif Nat.beq t 25 then some ti25 else (bif Nat.blt t 28 then (bif Nat.blt t 27 then (bif Nat.blt t 26 then none else bif Nat.beq t 26 then some ti26 else none) else bif Nat.beq t 27 then some ti27 else none) else bif Nat.beq t 28 then some ti28 else (bif Nat.blt t 29 then none else bif Nat.beq t 29 then some ti29 else none))) else bif Nat.beq t 30 then some ti30 else (bif Nat.blt t 36 then (bif Nat.blt t 33 then (bif Nat.blt t 32 then (bif Nat.blt t 31 then none else bif Nat.beq t 31 then some ti31 else none) else bif Nat.beq t 32 then some ti32 else none) else bif Nat.beq t 33 then some ti33 else (bif Nat.blt t 35 then none else bif Nat.beq t 35 then some ti35 else none)) else bif Nat.beq t 36 then some ti36 else (bif Nat.blt t 38 then (bif Nat.blt t 37 then none else bif Nat.beq t 37 then some ti37 else none) else bif Nat.beq t 38 then some ti38 else (bif Nat.blt t 40 then none else bif Nat.beq t 40 then some ti40 else none))))) else bif Nat.beq t 42 then some ti42 else (bif Nat.blt t 64 then (bif Nat.blt t 53 then (bif Nat.blt t 47 then (bif Nat.blt t 45 then (bif Nat.blt t 44 then (bif Nat.blt t 43 then none else bif Nat.beq t 43 then some ti43 else none) else bif Nat.beq t 44 then some ti44 else none) else bif Nat.beq t 45 then some ti45 else (bif Nat.blt t 46 then none else bif Nat.beq t 46 then some ti46 else none)) else bif Nat.beq t 47 then some ti47 else (bif Nat.blt t 51 then (bif Nat.blt t 50 then (bif Nat.blt t 49 then none else bif Nat.beq t 49 then some ti49 else none) else bif Nat.beq t 50 then some ti50 else none) else bif Nat.beq t 51 then some ti51 else (bif Nat.blt t 52 then none else bif Nat.beq t 52 then some ti52 else none))) else bif Nat.beq t 53 then some ti53 else (bif Nat.blt t 60 then (bif Nat.blt t 58 then (bif Nat.blt t 56 then (bif Nat.blt t 54 then none else bif Nat.beq t 54 then some ti54 else none) else bif Nat.beq t 56 then some ti56 else none) else bif Nat.beq t 58 then some ti58 else (bif Nat.blt t 59 then none else bif Nat.beq t 59 then some ti59 else none)) else bif Nat.beq t 60 then some ti60 else (bif Nat.blt t 62 then (bif Nat.blt t 61 then none else bif Nat.beq t 61 then some ti61 else none) else bif Nat.beq t 62 then some ti62 else (bif Nat.blt t 63 then none else bif Nat.beq t 63 then some ti63 else none)))) else bif Nat.beq t 64 then some ti64 else (bif Nat.blt t 75 then (bif Nat.blt t 69 then (bif Nat.blt t 67 then (bif Nat.blt t 66 then (bif Nat.blt t 65 then none else bif Nat.beq t 65 then some ti65 else none) else bif Nat.beq t 66 then some ti66 else none) else bif Nat.beq t 67 then some ti67 else (bif Nat.blt t 68 then none else bif Nat.beq t 68 then some ti68 else none)) else bif Nat.beq t 69 then some ti69 else (bif Nat.blt t 73 then (bif Nat.blt t 72 then (bif Nat.blt t 70 then none else bif Nat.beq t 70 then some ti70 else none) else bif Nat.beq t 72 then some ti72 else none) else bif Nat.beq t 73 then some ti73 else (bif Nat.blt t 74 then none else bif Nat.beq t 74 then some ti74 else none))) else bif Nat.beq t 75 then some ti75 else (bif Nat.blt t 80 then (bif Nat.blt t 78 then (bif Nat.blt t 77 then (bif Nat.blt t 76 then none else bif Nat.beq t 76 then some ti76 else none) else bif Nat.beq t 77 then some ti77 else none) else bif Nat.beq t 78 then some ti78 else (bif Nat.blt t 79 then none else bif Nat.beq t 79 then some ti79 else none)) else bif Nat.beq t 80 then some ti80 else (bif Nat.blt t 82 then (bif Nat.blt t 81 then none else bif Nat.beq t 81 then some ti81 else none) else bif Nat.beq t 82 then some ti82 else (bif Nat.blt t 83 then none else bif Nat.beq t 83 then some ti83 else none)))))) else bif Nat.beq t 84 then some ti84 else (bif Nat.blt t 126 then (bif Nat.blt t 106 then (bif Nat.blt t 95 then (bif Nat.blt t 89 then (bif Nat.blt t 87 then (bif Nat.blt t 86 then (bif Nat.blt t 85 then none else bif Nat.beq t 85 then some ti85 else none) else bif Nat.beq t 86 then some ti86 else none) else bif Nat.beq t 87 then some ti87 else (bif Nat.blt t 88 then none else bif Nat.beq t 88 then some ti88 else none)) else bif Nat.beq t 89 then some ti89 else (bif Nat.blt t 93 then (bif Nat.blt t 91 then (bif Nat.blt t 90 then none else bif Nat.beq t 90 then some ti90 else none) else bif Nat.beq t 91 then some ti91 else none) else bif Nat.beq t 93 then some ti93 else (bif Nat.blt t 94 then none else bif Nat.beq t 94 then some ti94 else none))) else bif Nat.beq t 95 then some ti95 else (bif Nat.blt t 101 then (bif Nat.blt t 99 then (bif Nat.blt t 98 then (bif Nat.blt t 96 then none else bif Nat.beq t 96 then some ti96 else none) else bif Nat.beq t 98 then some ti98 else none) else bif Nat.beq t 99 then some ti99 else (bif Nat.blt t 100 then none else bif Nat.beq t 100 then some ti100 else none)) else bif Nat.beq t 101 then some ti101 else (bif Nat.blt t 104 then (bif Nat.blt t 102 then none else bif Nat.beq t 102 then some ti102 else none) else bif Nat.beq t 104 then some ti104 else (bif Nat.blt t 105 then none else bif Nat.beq t 105 then some ti105 else none)))) else bif Nat.beq t 106 then some ti106 else (bif Nat.blt t 117 then (bif Nat.blt t 111 then (bif Nat.blt t 109 then (bif Nat.blt t 108 then (bif Nat.blt t 107 then none else bif Nat.beq t 107 then some ti107 else none) else bif Nat.beq t 108 then some ti108 else none) else bif Nat.beq t 109 then some ti109 else (bif Nat.blt t 110 then none else bif Nat.beq t 110 then some ti110 else none)) else bif Nat.beq t 111 then some ti111 else (bif Nat.blt t 115 then (bif Nat.blt t 113 then (bif Nat.blt t 112 then none else bif Nat.beq t 112 then some ti112 else none) else bif Nat.beq t 113 then some ti113 else none) else bif Nat.beq t 115 then some ti115 else (bif Nat.blt t 116 then none else bif Nat.beq t 116 then some ti116 else none))) else bif Nat.beq t 117 then some ti117 else (bif Nat.blt t 122 then (bif Nat.blt t 120 then (bif Nat.blt t 119 then (bif Nat.blt t 118 then none else bif Nat.beq t 118 then some ti118 else none) else bif Nat.beq t 119 then some ti119 else none) else bif Nat.beq t 120 then some ti120 else (bif Nat.blt t 121 then none else bif Nat.beq t 121 then some ti121 else none)) else bif Nat.beq t 122 then some ti122 else (bif Nat.blt t 124 then (bif Nat.blt t 123 then none else bif Nat.beq t 123 then some ti123 else none) else bif Nat.beq t 124 then some ti124 else (bif Nat.blt t 125 then none else bif Nat.beq t 125 then some ti125 else none))))) else bif Nat.beq t 126 then some ti126 else (bif Nat.blt t 147 then (bif Nat.blt t 137 then (bif Nat.blt t 131 then (bif Nat.blt t 129 then (bif Nat.blt t 128 then (bif Nat.blt t 127 then none else bif Nat.beq t 127 then some ti127 else none) else bif Nat.beq t 128 then some ti128 else none) else bif Nat.beq t 129 then some ti129 else (bif Nat.blt t 130 then none else bif Nat.beq t 130 then some ti130 else none)) else bif Nat.beq t 131 then some ti131 else (bif Nat.blt t 134 then (bif Nat.blt t 133 then (bif Nat.blt t 132 then none else bif Nat.beq t 132 then some ti132 else none) else bif Nat.beq t 133 then some ti133 else none) else bif Nat.beq t 134 then some ti134 else (bif Nat.blt t 136 then none else bif Nat.beq t 136 then some ti136 else none))) else bif Nat.beq t 137 then some ti137 else (bif Nat.blt t 143 then (bif Nat.blt t 140 then (bif Nat.blt t 139 then (bif Nat.blt t 138 then none else bif Nat.beq t 138 then some ti138 else none) else bif Nat.beq t 139 then some ti139 else none) else bif Nat.beq t 140 then some ti140 else (bif Nat.blt t 142 then none else bif Nat.beq t 142 then some ti142 else none)) else bif Nat.beq t 143 then some ti143 else (bif Nat.blt t 145 then (bif Nat.blt t 144 then none else bif Nat.beq t 144 then some ti144 else none) else bif Nat.beq t 145 then some ti145 else (bif Nat.blt t 146 then none else bif Nat.beq t 146 then some ti146 else none)))) else bif Nat.beq t 147 then some ti147 else (bif Nat.blt t 157 then (bif Nat.blt t 152 then (bif Nat.blt t 150 then (bif Nat.blt t 149 then (bif Nat.blt t 148 then none else bif Nat.beq t 148 then some ti148 else none) else bif Nat.beq t 149 then some ti149 else none) else bif Nat.beq t 150 then some ti150 else (bif Nat.blt t 151 then none else bif Nat.beq t 151 then some ti151 else none)) else bif Nat.beq t 152 then some ti152 else (bif Nat.blt t 155 then (bif Nat.blt t 154 then (bif Nat.blt t 153 then none else bif Nat.beq t 153 then some ti153 else none) else bif Nat.beq t 154 then some ti154 else none) else bif Nat.beq t 155 then some ti155 else (bif Nat.blt t 156 then none else bif Nat.beq t 156 then some ti156 else none))) else bif Nat.beq t 157 then some ti157 else (bif Nat.blt t 162 then (bif Nat.blt t 160 then (bif Nat.blt t 159 then (bif Nat.blt t 158 then none else bif Nat.beq t 158 then some ti158 else none) else bif Nat.beq t 159 then some ti159 else none) else bif Nat.beq t 160 then some ti160 else (bif Nat.blt t 161 then none else bif Nat.beq t 161 then some ti161 else none)) else bif Nat.beq t 162 then some ti162 else (bif Nat.blt t 164 then (bif Nat.blt t 163 then none else bif Nat.beq t 163 then some ti163 else none) else bif Nat.beq t 164 then some ti164 else (bif Nat.blt t 165 then none else bif Nat.beq t 165 then some ti165 else none)))))))
noncomputable def gT (g : Nat) : Option AVal := bif Nat.beq g 0 then some (.cptr [.any]) else bif Nat.beq g 1 then some (.cptr (Lib.pow10Tab.map fun z => .int .u64 z)) else bif Nat.beq g 2 then some (.any) else bif Nat.beq g 3 then some (.any) else none
theorem cond_some {α : Type} {b : Bool} {x y : Option α} {e : α} (h : (bif b then x else y) = some e) : (b = true ∧ x = some e) ∨ (b = false ∧ y = some e) := by cases b <;> simp_all
noncomputable def cx : Cx := ⟨Tryd.prog, tT, gT, fun _ => false, fun _ => none⟩
theorem tT_small : (List.range 166).map tT = (List.range 166).map (tyB Tryd.prog 166) := by kernel_rfl
theorem nblt (t k : Nat) (h : k ≤ t) : Nat.blt t k = false := by cases hb : Nat.blt t k; rfl; exact absurd (blt_iff.1 hb) (by omega)
theorem nbne (t k : Nat) (h : t ≠ k) : Nat.beq t k = false := by cases hb : Nat.beq t k; rfl; exact absurd (nbeq hb) h
theorem tT_big (t : Nat) (h : 166 ≤ t) : tT t = none := by
  unfold tT
  rw [show Nat.blt t 84 = false from nblt t 84 (by omega), cond_false, show Nat.beq t 84 = false from nbne t 84 (by omega), cond_false, show Nat.blt t 126 = false from nblt t 126 (by omega), cond_false, show Nat.beq t 126 = false from nbne t 126 (by omega), cond_false, show Nat.blt t 147 = false from nblt t 147 (by omega), cond_false, show Nat.beq t 147 = false from nbne t 147 (by omega), cond_false, show Nat.blt t 157 = false from nblt t 157 (by omega), cond_false, show Nat.beq t 157 = false from nbne t 157 (by omega), cond_false, show Nat.blt t 162 = false from nblt t 162 (by omega), cond_false, show Nat.beq t 162 = false from nbne t 162 (by omega), cond_false, show Nat.blt t 164 = false from nblt t 164 (by omega), cond_false, show Nat.beq t 164 = false from nbne t 164 (by omega), cond_false, show Nat.blt t 165 = false from nblt t 165 (by omega), cond_false, show Nat.beq t 165 = false from nbne t 165 (by omega), cond_false]
theorem tT_eq (t : TypeId) (i : TI) (h : tT t = some i) : tyB Tryd.prog 166 t = some i := by
  rcases Nat.lt_or_ge t 166 with hl | hl
  · have := congrArg (fun l => l[t]?) tT_small
    simp only [List.getElem?_map, List.getElem?_range hl, Option.map_some, Option.some.injEq] at this
    rw [← this]; exact h
  · exact absurd h (by have e := tT_big t hl; rw [e]; exact fun h => by cases h)
theorem cxT : TOk cx.P cx.T := by
  have h : TOk Tryd.prog (tyB Tryd.prog 166) := tyB_ok (by kernel_rfl)
  have e : tyB Tryd.prog 166 = tT := by
    funext t
    rcases Nat.lt_or_ge t 166 with hl | hl
    · have := congrArg (fun l => l[t]?) tT_small
      simp only [List.getElem?_map, List.getElem?_range hl, Option.map_some, Option.some.injEq] at this
      exact this.symm
    · rw [tT_big t hl]
      unfold tyB basicOk
      rw [decide_eq_false (Nat.not_lt.2 hl : ¬ (t : Nat) < 166)]
      rfl
  rw [e] at h
  exact h
theorem cxOk : cx.Ok := ⟨cxT, fun t i h => cells_of t i (tT_eq t i h), by kernel_rfl⟩
theorem cxG : GClosed cx := fun g v h => by
  have h : gT g = some v := h
  unfold gT at h
  rcases cond_some h with ⟨_, h⟩ | ⟨_, h⟩
  · injection h with h
    subst h
    first | exact .any | exact .cptr _ (fun c hc => by obtain ⟨z, _, rfl⟩ := List.mem_map.1 hc; exact .int _ _) | exact .cptr _ (fun c hc => by obtain rfl := List.mem_singleton.1 hc; exact .any)
  rcases cond_some h with ⟨_, h⟩ | ⟨_, h⟩
  · injection h with h
    subst h
    first | exact .any | exact .cptr _ (fun c hc => by obtain ⟨z, _, rfl⟩ := List.mem_map.1 hc; exact .int _ _) | exact .cptr _ (fun c hc => by obtain rfl := List.mem_singleton.1 hc; exact .any)
  rcases cond_some h with ⟨_, h⟩ | ⟨_, h⟩
  · injection h with h
    subst h
    first | exact .any | exact .cptr _ (fun c hc => by obtain ⟨z, _, rfl⟩ := List.mem_map.1 hc; exact .int _ _) | exact .cptr _ (fun c hc => by obtain rfl := List.mem_singleton.1 hc; exact .any)
  rcases cond_some h with ⟨_, h⟩ | ⟨_, h⟩
  · injection h with h
    subst h
    first | exact .any | exact .cptr _ (fun c hc => by obtain ⟨z, _, rfl⟩ := List.mem_map.1 hc; exact .int _ _) | exact .cptr _ (fun c hc => by obtain rfl := List.mem_singleton.1 hc; exact .any)
  cases h
/-- A function of the program's, as the reckoning has it. -/
def mkFE (fn : Func) (q : Nat → Option UL) (pl : Bool) : FE := ⟨LB fn, fn.ntmps, fn.results.toList, q, pl⟩
def FEOk (f : FuncId) (e : FE) : Prop := FnOk cx f e.body e.N e.rs ∧ BodyOk cx f pF e.q
theorem feOk {f : FuncId} {fn : Func} {q : Nat → Option UL} {pl : Bool} (h : cx.P.funcs[f]? = some fn) (h1 : (fn.body.isSome && !(fn.name == "runtime.NumGoroutine")) = true) (h2 : bodyB (cx.wp pF q) fn = true) : FEOk f (mkFE fn q pl) :=
  ⟨fnOk_of h h1, bodyOk_of h h2⟩
inductive Tr
  | z
  | n (l : Tr) (k : Nat) (v : FE) (r : Tr)
def Tr.get : Tr → Nat → Option FE
  | .z, _ => none
  | .n l k v r, f => bif Nat.blt f k then l.get f else bif Nat.beq f k then some v else r.get f
def Tr.All : Tr → Prop
  | .z => True
  | .n l k v r => l.All ∧ FEOk k v ∧ r.All
theorem Tr.ok : ∀ {t : Tr} {f : Nat} {e : FE}, t.All → t.get f = some e → FEOk f e
  | .z, _, _, _, h => by cases h
  | .n l k v r, f, e, a, h => by
    rcases cond_some (h : (bif Nat.blt f k then l.get f else bif Nat.beq f k then some v else r.get f) = some e) with ⟨_, h1⟩ | ⟨_, h1⟩
    · exact Tr.ok a.1 h1
    · rcases cond_some h1 with ⟨d, h2⟩ | ⟨_, h2⟩
      · have hk := nbeq d
        have hv := Option.some.inj h2
        rw [hk, ← hv]
        exact a.2.1
      · exact Tr.ok a.2.2 h2
def q0 (_ : Nat) : Option UL := none
noncomputable def fe3 : FE := mkFE Tryd.f3 (q0) true
theorem fo3 : FEOk 3 fe3 := feOk Tryd.func3 (by kernel_rfl) (by kernel_rfl)
noncomputable def fe4 : FE := mkFE Tryd.f4 (fun i => bif Nat.beq i 3 then some [(some 19, some 18)] else none) true
theorem fo4 : FEOk 4 fe4 := feOk Tryd.func4 (by kernel_rfl) (by kernel_rfl)
noncomputable def fe5 : FE := mkFE Tryd.f5 (q0) true
theorem fo5 : FEOk 5 fe5 := feOk Tryd.func5 (by kernel_rfl) (by kernel_rfl)
noncomputable def fe6 : FE := mkFE Tryd.f6 (fun i => bif Nat.beq i 9 then some [(some 70, some 9)] else bif Nat.beq i 10 then some [(some 89, some 87)] else none) true
theorem fo6 : FEOk 6 fe6 := feOk Tryd.func6 (by kernel_rfl) (by kernel_rfl)
noncomputable def fe7 : FE := mkFE Tryd.f7 (q0) true
theorem fo7 : FEOk 7 fe7 := feOk Tryd.func7 (by kernel_rfl) (by kernel_rfl)
noncomputable def fe8 : FE := mkFE Tryd.f8 (q0) true
theorem fo8 : FEOk 8 fe8 := feOk Tryd.func8 (by kernel_rfl) (by kernel_rfl)
noncomputable def fe9 : FE := mkFE Tryd.f9 (q0) true
theorem fo9 : FEOk 9 fe9 := feOk Tryd.func9 (by kernel_rfl) (by kernel_rfl)
noncomputable def fe10 : FE := mkFE Tryd.f10 (q0) true
theorem fo10 : FEOk 10 fe10 := feOk Tryd.func10 (by kernel_rfl) (by kernel_rfl)
noncomputable def fe11 : FE := mkFE Tryd.f11 (q0) true
theorem fo11 : FEOk 11 fe11 := feOk Tryd.func11 (by kernel_rfl) (by kernel_rfl)
noncomputable def fe12 : FE := mkFE Tryd.f12 (q0) true
theorem fo12 : FEOk 12 fe12 := feOk Tryd.func12 (by kernel_rfl) (by kernel_rfl)
noncomputable def fe13 : FE := mkFE Tryd.f13 (q0) true
theorem fo13 : FEOk 13 fe13 := feOk Tryd.func13 (by kernel_rfl) (by kernel_rfl)
noncomputable def fe14 : FE := mkFE Tryd.f14 (q0) true
theorem fo14 : FEOk 14 fe14 := feOk Tryd.func14 (by kernel_rfl) (by kernel_rfl)
noncomputable def fe15 : FE := mkFE Tryd.f15 (q0) true
theorem fo15 : FEOk 15 fe15 := feOk Tryd.func15 (by kernel_rfl) (by kernel_rfl)
noncomputable def fe16 : FE := mkFE Tryd.f16 (q0) true
theorem fo16 : FEOk 16 fe16 := feOk Tryd.func16 (by kernel_rfl) (by kernel_rfl)
noncomputable def fe17 : FE := mkFE Tryd.f17 (q0) true
theorem fo17 : FEOk 17 fe17 := feOk Tryd.func17 (by kernel_rfl) (by kernel_rfl)
noncomputable def fe18 : FE := mkFE Tryd.f18 (q0) true
theorem fo18 : FEOk 18 fe18 := feOk Tryd.func18 (by kernel_rfl) (by kernel_rfl)
noncomputable def fe19 : FE := mkFE Tryd.f19 (q0) true
theorem fo19 : FEOk 19 fe19 := feOk Tryd.func19 (by kernel_rfl) (by kernel_rfl)
noncomputable def fe20 : FE := mkFE Tryd.f20 (q0) false
theorem fo20 : FEOk 20 fe20 := feOk Tryd.func20 (by kernel_rfl) (by kernel_rfl)
noncomputable def fe21 : FE := mkFE Tryd.f21 (q0) true
theorem fo21 : FEOk 21 fe21 := feOk Tryd.func21 (by kernel_rfl) (by kernel_rfl)
noncomputable def fe22 : FE := mkFE Tryd.f22 (fun i => bif Nat.beq i 1 then some [(some 3, some 4)] else none) true
theorem fo22 : FEOk 22 fe22 := feOk Tryd.func22 (by kernel_rfl) (by kernel_rfl)
noncomputable def fe23 : FE := mkFE Tryd.f23 (q0) true
theorem fo23 : FEOk 23 fe23 := feOk Tryd.func23 (by kernel_rfl) (by kernel_rfl)
noncomputable def fe24 : FE := mkFE Tryd.f24 (q0) true
theorem fo24 : FEOk 24 fe24 := feOk Tryd.func24 (by kernel_rfl) (by kernel_rfl)
noncomputable def fe25 : FE := mkFE Tryd.f25 (q0) false
theorem fo25 : FEOk 25 fe25 := feOk Tryd.func25 (by kernel_rfl) (by kernel_rfl)
noncomputable def fe26 : FE := mkFE Tryd.f26 (q0) true
theorem fo26 : FEOk 26 fe26 := feOk Tryd.func26 (by kernel_rfl) (by kernel_rfl)
noncomputable def fe27 : FE := mkFE Tryd.f27 (q0) true
theorem fo27 : FEOk 27 fe27 := feOk Tryd.func27 (by kernel_rfl) (by kernel_rfl)
noncomputable def fe28 : FE := mkFE Tryd.f28 (q0) true
theorem fo28 : FEOk 28 fe28 := feOk Tryd.func28 (by kernel_rfl) (by kernel_rfl)
noncomputable def fe29 : FE := mkFE Tryd.f29 (q0) true
theorem fo29 : FEOk 29 fe29 := feOk Tryd.func29 (by kernel_rfl) (by kernel_rfl)
noncomputable def fe30 : FE := mkFE Tryd.f30 (q0) true
theorem fo30 : FEOk 30 fe30 := feOk Tryd.func30 (by kernel_rfl) (by kernel_rfl)
noncomputable def fe31 : FE := mkFE Tryd.f31 (q0) true
theorem fo31 : FEOk 31 fe31 := feOk Tryd.func31 (by kernel_rfl) (by kernel_rfl)
noncomputable def fe32 : FE := mkFE Tryd.f32 (q0) false
theorem fo32 : FEOk 32 fe32 := feOk Tryd.func32 (by kernel_rfl) (by kernel_rfl)
noncomputable def fe33 : FE := mkFE Tryd.f33 (q0) false
theorem fo33 : FEOk 33 fe33 := feOk Tryd.func33 (by kernel_rfl) (by kernel_rfl)
noncomputable def fe34 : FE := mkFE Tryd.f34 (q0) true
theorem fo34 : FEOk 34 fe34 := feOk Tryd.func34 (by kernel_rfl) (by kernel_rfl)
noncomputable def fe35 : FE := mkFE Tryd.f35 (q0) true
theorem fo35 : FEOk 35 fe35 := feOk Tryd.func35 (by kernel_rfl) (by kernel_rfl)
noncomputable def fe36 : FE := mkFE Tryd.f36 (q0) true
theorem fo36 : FEOk 36 fe36 := feOk Tryd.func36 (by kernel_rfl) (by kernel_rfl)
noncomputable def fe37 : FE := mkFE Tryd.f37 (q0) false
theorem fo37 : FEOk 37 fe37 := feOk Tryd.func37 (by kernel_rfl) (by kernel_rfl)
noncomputable def fe38 : FE := mkFE Tryd.f38 (q0) true
theorem fo38 : FEOk 38 fe38 := feOk Tryd.func38 (by kernel_rfl) (by kernel_rfl)
noncomputable def fe39 : FE := mkFE Tryd.f39 (q0) false
theorem fo39 : FEOk 39 fe39 := feOk Tryd.func39 (by kernel_rfl) (by kernel_rfl)
noncomputable def fe40 : FE := mkFE Tryd.f40 (q0) false
theorem fo40 : FEOk 40 fe40 := feOk Tryd.func40 (by kernel_rfl) (by kernel_rfl)
noncomputable def fe41 : FE := mkFE Tryd.f41 (q0) false
theorem fo41 : FEOk 41 fe41 := feOk Tryd.func41 (by kernel_rfl) (by kernel_rfl)
noncomputable def fe42 : FE := mkFE Tryd.f42 (q0) false
theorem fo42 : FEOk 42 fe42 := feOk Tryd.func42 (by kernel_rfl) (by kernel_rfl)
noncomputable def fe43 : FE := mkFE Tryd.f43 (q0) true
theorem fo43 : FEOk 43 fe43 := feOk Tryd.func43 (by kernel_rfl) (by kernel_rfl)
noncomputable def fe44 : FE := mkFE Tryd.f44 (q0) true
theorem fo44 : FEOk 44 fe44 := feOk Tryd.func44 (by kernel_rfl) (by kernel_rfl)
noncomputable def fe45 : FE := mkFE Tryd.f45 (q0) false
theorem fo45 : FEOk 45 fe45 := feOk Tryd.func45 (by kernel_rfl) (by kernel_rfl)
noncomputable def fe46 : FE := mkFE Tryd.f46 (q0) true
theorem fo46 : FEOk 46 fe46 := feOk Tryd.func46 (by kernel_rfl) (by kernel_rfl)
noncomputable def fe47 : FE := mkFE Tryd.f47 (q0) true
theorem fo47 : FEOk 47 fe47 := feOk Tryd.func47 (by kernel_rfl) (by kernel_rfl)
noncomputable def fe48 : FE := mkFE Tryd.f48 (q0) true
theorem fo48 : FEOk 48 fe48 := feOk Tryd.func48 (by kernel_rfl) (by kernel_rfl)
noncomputable def fe49 : FE := mkFE Tryd.f49 (fun i => bif Nat.beq i 15 then some [(some 60, some 63)] else none) true
theorem fo49 : FEOk 49 fe49 := feOk Tryd.func49 (by kernel_rfl) (by kernel_rfl)
noncomputable def fe50 : FE := mkFE Tryd.f50 (q0) false
theorem fo50 : FEOk 50 fe50 := feOk Tryd.func50 (by kernel_rfl) (by kernel_rfl)
noncomputable def fe51 : FE := mkFE Tryd.f51 (q0) true
theorem fo51 : FEOk 51 fe51 := feOk Tryd.func51 (by kernel_rfl) (by kernel_rfl)
noncomputable def fe52 : FE := mkFE Tryd.f52 (q0) true
theorem fo52 : FEOk 52 fe52 := feOk Tryd.func52 (by kernel_rfl) (by kernel_rfl)
noncomputable def fe53 : FE := mkFE Tryd.f53 (q0) false
theorem fo53 : FEOk 53 fe53 := feOk Tryd.func53 (by kernel_rfl) (by kernel_rfl)
noncomputable def fe54 : FE := mkFE Tryd.f54 (fun i => bif Nat.beq i 1 then some [(some 11, some 7)] else none) true
theorem fo54 : FEOk 54 fe54 := feOk Tryd.func54 (by kernel_rfl) (by kernel_rfl)
noncomputable def fe55 : FE := mkFE Tryd.f55 (q0) true
theorem fo55 : FEOk 55 fe55 := feOk Tryd.func55 (by kernel_rfl) (by kernel_rfl)
noncomputable def fe56 : FE := mkFE Tryd.f56 (q0) true
theorem fo56 : FEOk 56 fe56 := feOk Tryd.func56 (by kernel_rfl) (by kernel_rfl)
noncomputable def fe57 : FE := mkFE Tryd.f57 (q0) true
theorem fo57 : FEOk 57 fe57 := feOk Tryd.func57 (by kernel_rfl) (by kernel_rfl)
noncomputable def fe58 : FE := mkFE Tryd.f58 (q0) true
theorem fo58 : FEOk 58 fe58 := feOk Tryd.func58 (by kernel_rfl) (by kernel_rfl)
noncomputable def fe59 : FE := mkFE Tryd.f59 (q0) true
theorem fo59 : FEOk 59 fe59 := feOk Tryd.func59 (by kernel_rfl) (by kernel_rfl)
noncomputable def fe60 : FE := mkFE Tryd.f60 (q0) true
theorem fo60 : FEOk 60 fe60 := feOk Tryd.func60 (by kernel_rfl) (by kernel_rfl)
noncomputable def fe61 : FE := mkFE Tryd.f61 (q0) true
theorem fo61 : FEOk 61 fe61 := feOk Tryd.func61 (by kernel_rfl) (by kernel_rfl)
noncomputable def fe62 : FE := mkFE Tryd.f62 (q0) true
theorem fo62 : FEOk 62 fe62 := feOk Tryd.func62 (by kernel_rfl) (by kernel_rfl)
noncomputable def fe63 : FE := mkFE Tryd.f63 (q0) false
theorem fo63 : FEOk 63 fe63 := feOk Tryd.func63 (by kernel_rfl) (by kernel_rfl)
noncomputable def fe64 : FE := mkFE Tryd.f64 (q0) false
theorem fo64 : FEOk 64 fe64 := feOk Tryd.func64 (by kernel_rfl) (by kernel_rfl)
noncomputable def fe65 : FE := mkFE Tryd.f65 (q0) true
theorem fo65 : FEOk 65 fe65 := feOk Tryd.func65 (by kernel_rfl) (by kernel_rfl)
noncomputable def fe66 : FE := mkFE Tryd.f66 (q0) true
theorem fo66 : FEOk 66 fe66 := feOk Tryd.func66 (by kernel_rfl) (by kernel_rfl)
noncomputable def fe67 : FE := mkFE Tryd.f67 (q0) true
theorem fo67 : FEOk 67 fe67 := feOk Tryd.func67 (by kernel_rfl) (by kernel_rfl)
noncomputable def fe69 : FE := mkFE Tryd.f69 (q0) true
theorem fo69 : FEOk 69 fe69 := feOk Tryd.func69 (by kernel_rfl) (by kernel_rfl)
noncomputable def fe70 : FE := mkFE Tryd.f70 (q0) true
theorem fo70 : FEOk 70 fe70 := feOk Tryd.func70 (by kernel_rfl) (by kernel_rfl)
noncomputable def fe71 : FE := mkFE Tryd.f71 (q0) true
theorem fo71 : FEOk 71 fe71 := feOk Tryd.func71 (by kernel_rfl) (by kernel_rfl)
noncomputable def fe72 : FE := mkFE Tryd.f72 (q0) true
theorem fo72 : FEOk 72 fe72 := feOk Tryd.func72 (by kernel_rfl) (by kernel_rfl)
noncomputable def fe73 : FE := mkFE Tryd.f73 (q0) true
theorem fo73 : FEOk 73 fe73 := feOk Tryd.func73 (by kernel_rfl) (by kernel_rfl)
noncomputable def fe74 : FE := mkFE Tryd.f74 (q0) true
theorem fo74 : FEOk 74 fe74 := feOk Tryd.func74 (by kernel_rfl) (by kernel_rfl)
noncomputable def fe75 : FE := mkFE Tryd.f75 (q0) true
theorem fo75 : FEOk 75 fe75 := feOk Tryd.func75 (by kernel_rfl) (by kernel_rfl)
noncomputable def fe76 : FE := mkFE Tryd.f76 (q0) false
theorem fo76 : FEOk 76 fe76 := feOk Tryd.func76 (by kernel_rfl) (by kernel_rfl)
noncomputable def fe77 : FE := mkFE Tryd.f77 (q0) false
theorem fo77 : FEOk 77 fe77 := feOk Tryd.func77 (by kernel_rfl) (by kernel_rfl)
noncomputable def fe78 : FE := mkFE Tryd.f78 (q0) false
theorem fo78 : FEOk 78 fe78 := feOk Tryd.func78 (by kernel_rfl) (by kernel_rfl)
noncomputable def fe79 : FE := mkFE Tryd.f79 (q0) false
theorem fo79 : FEOk 79 fe79 := feOk Tryd.func79 (by kernel_rfl) (by kernel_rfl)
noncomputable def fe81 : FE := mkFE Tryd.f81 (q0) true
theorem fo81 : FEOk 81 fe81 := feOk Tryd.func81 (by kernel_rfl) (by kernel_rfl)
noncomputable def fe82 : FE := mkFE Tryd.f82 (q0) true
theorem fo82 : FEOk 82 fe82 := feOk Tryd.func82 (by kernel_rfl) (by kernel_rfl)
noncomputable def fe83 : FE := mkFE Tryd.f83 (q0) true
theorem fo83 : FEOk 83 fe83 := feOk Tryd.func83 (by kernel_rfl) (by kernel_rfl)
noncomputable def fe84 : FE := mkFE Tryd.f84 (q0) true
theorem fo84 : FEOk 84 fe84 := feOk Tryd.func84 (by kernel_rfl) (by kernel_rfl)
noncomputable def fe85 : FE := mkFE Tryd.f85 (q0) true
theorem fo85 : FEOk 85 fe85 := feOk Tryd.func85 (by kernel_rfl) (by kernel_rfl)
noncomputable def fe86 : FE := mkFE Tryd.f86 (q0) true
theorem fo86 : FEOk 86 fe86 := feOk Tryd.func86 (by kernel_rfl) (by kernel_rfl)
noncomputable def fe87 : FE := mkFE Tryd.f87 (q0) false
theorem fo87 : FEOk 87 fe87 := feOk Tryd.func87 (by kernel_rfl) (by kernel_rfl)
noncomputable def fe88 : FE := mkFE Tryd.f88 (q0) true
theorem fo88 : FEOk 88 fe88 := feOk Tryd.func88 (by kernel_rfl) (by kernel_rfl)
noncomputable def fe89 : FE := mkFE Tryd.f89 (q0) true
theorem fo89 : FEOk 89 fe89 := feOk Tryd.func89 (by kernel_rfl) (by kernel_rfl)
noncomputable def fe90 : FE := mkFE Tryd.f90 (fun i => bif Nat.beq i 1 then some [(some 8, some 7)] else none) false
theorem fo90 : FEOk 90 fe90 := feOk Tryd.func90 (by kernel_rfl) (by kernel_rfl)
noncomputable def fe91 : FE := mkFE Tryd.f91 (fun i => bif Nat.beq i 1 then some [(some 8, some 7)] else none) false
theorem fo91 : FEOk 91 fe91 := feOk Tryd.func91 (by kernel_rfl) (by kernel_rfl)
noncomputable def fe92 : FE := mkFE Tryd.f92 (q0) false
theorem fo92 : FEOk 92 fe92 := feOk Tryd.func92 (by kernel_rfl) (by kernel_rfl)
noncomputable def fe93 : FE := mkFE Tryd.f93 (q0) false
theorem fo93 : FEOk 93 fe93 := feOk Tryd.func93 (by kernel_rfl) (by kernel_rfl)
noncomputable def fe94 : FE := mkFE Tryd.f94 (q0) true
theorem fo94 : FEOk 94 fe94 := feOk Tryd.func94 (by kernel_rfl) (by kernel_rfl)
noncomputable def fe96 : FE := mkFE Tryd.f96 (q0) true
theorem fo96 : FEOk 96 fe96 := feOk Tryd.func96 (by kernel_rfl) (by kernel_rfl)
noncomputable def fe97 : FE := mkFE Tryd.f97 (q0) true
theorem fo97 : FEOk 97 fe97 := feOk Tryd.func97 (by kernel_rfl) (by kernel_rfl)
noncomputable def fe98 : FE := mkFE Tryd.f98 (q0) true
theorem fo98 : FEOk 98 fe98 := feOk Tryd.func98 (by kernel_rfl) (by kernel_rfl)
noncomputable def fe99 : FE := mkFE Tryd.f99 (q0) true
theorem fo99 : FEOk 99 fe99 := feOk Tryd.func99 (by kernel_rfl) (by kernel_rfl)
noncomputable def fe100 : FE := mkFE Tryd.f100 (q0) true
theorem fo100 : FEOk 100 fe100 := feOk Tryd.func100 (by kernel_rfl) (by kernel_rfl)
noncomputable def fe101 : FE := mkFE Tryd.f101 (q0) true
theorem fo101 : FEOk 101 fe101 := feOk Tryd.func101 (by kernel_rfl) (by kernel_rfl)
noncomputable def fe102 : FE := mkFE Tryd.f102 (q0) false
theorem fo102 : FEOk 102 fe102 := feOk Tryd.func102 (by kernel_rfl) (by kernel_rfl)
noncomputable def fe103 : FE := mkFE Tryd.f103 (q0) true
theorem fo103 : FEOk 103 fe103 := feOk Tryd.func103 (by kernel_rfl) (by kernel_rfl)
noncomputable def fe105 : FE := mkFE Tryd.f105 (q0) true
theorem fo105 : FEOk 105 fe105 := feOk Tryd.func105 (by kernel_rfl) (by kernel_rfl)
noncomputable def fe106 : FE := mkFE Tryd.f106 (q0) true
theorem fo106 : FEOk 106 fe106 := feOk Tryd.func106 (by kernel_rfl) (by kernel_rfl)
noncomputable def fe107 : FE := mkFE Tryd.f107 (q0) true
theorem fo107 : FEOk 107 fe107 := feOk Tryd.func107 (by kernel_rfl) (by kernel_rfl)
noncomputable def fe108 : FE := mkFE Tryd.f108 (q0) true
theorem fo108 : FEOk 108 fe108 := feOk Tryd.func108 (by kernel_rfl) (by kernel_rfl)
noncomputable def tabT : Tr := (.n (.n (.n (.n (.n (.n (.n .z 3 fe3 .z) 4 fe4 (.n .z 5 fe5 .z)) 6 fe6 (.n (.n .z 7 fe7 .z) 8 fe8 .z)) 9 fe9 (.n (.n (.n .z 10 fe10 .z) 11 fe11 .z) 12 fe12 (.n (.n .z 13 fe13 .z) 14 fe14 .z))) 15 fe15 (.n (.n (.n (.n .z 16 fe16 .z) 17 fe17 (.n .z 18 fe18 .z)) 19 fe19 (.n (.n .z 20 fe20 .z) 21 fe21 .z)) 22 fe22 (.n (.n (.n .z 23 fe23 .z) 24 fe24 .z) 25 fe25 (.n (.n .z 26 fe26 .z) 27 fe27 .z)))) 28 fe28 (.n (.n (.n (.n (.n .z 29 fe29 .z) 30 fe30 (.n .z 31 fe31 .z)) 32 fe32 (.n (.n .z 33 fe33 .z) 34 fe34 .z)) 35 fe35 (.n (.n (.n .z 36 fe36 .z) 37 fe37 .z) 38 fe38 (.n (.n .z 39 fe39 .z) 40 fe40 .z))) 41 fe41 (.n (.n (.n (.n .z 42 fe42 .z) 43 fe43 (.n .z 44 fe44 .z)) 45 fe45 (.n (.n .z 46 fe46 .z) 47 fe47 .z)) 48 fe48 (.n (.n (.n .z 49 fe49 .z) 50 fe50 .z) 51 fe51 (.n (.n .z 52 fe52 .z) 53 fe53 .z))))) 54 fe54 (.n (.n (.n (.n (.n (.n .z 55 fe55 .z) 56 fe56 (.n .z 57 fe57 .z)) 58 fe58 (.n (.n .z 59 fe59 .z) 60 fe60 .z)) 61 fe61 (.n (.n (.n .z 62 fe62 .z) 63 fe63 .z) 64 fe64 (.n (.n .z 65 fe65 .z) 66 fe66 .z))) 67 fe67 (.n (.n (.n (.n .z 69 fe69 .z) 70 fe70 (.n .z 71 fe71 .z)) 72 fe72 (.n (.n .z 73 fe73 .z) 74 fe74 .z)) 75 fe75 (.n (.n (.n .z 76 fe76 .z) 77 fe77 .z) 78 fe78 (.n (.n .z 79 fe79 .z) 81 fe81 .z)))) 82 fe82 (.n (.n (.n (.n (.n .z 83 fe83 .z) 84 fe84 (.n .z 85 fe85 .z)) 86 fe86 (.n (.n .z 87 fe87 .z) 88 fe88 .z)) 89 fe89 (.n (.n (.n .z 90 fe90 .z) 91 fe91 .z) 92 fe92 (.n (.n .z 93 fe93 .z) 94 fe94 .z))) 96 fe96 (.n (.n (.n (.n .z 97 fe97 .z) 98 fe98 .z) 99 fe99 (.n (.n .z 100 fe100 .z) 101 fe101 .z)) 102 fe102 (.n (.n (.n .z 103 fe103 .z) 105 fe105 .z) 106 fe106 (.n (.n .z 107 fe107 .z) 108 fe108 .z))))))
noncomputable def tab (f : FuncId) : Option FE := tabT.get f
theorem tabA : tabT.All := ⟨⟨⟨⟨⟨⟨⟨⟨⟩, fo3, ⟨⟩⟩, fo4, ⟨⟨⟩, fo5, ⟨⟩⟩⟩, fo6, ⟨⟨⟨⟩, fo7, ⟨⟩⟩, fo8, ⟨⟩⟩⟩, fo9, ⟨⟨⟨⟨⟩, fo10, ⟨⟩⟩, fo11, ⟨⟩⟩, fo12, ⟨⟨⟨⟩, fo13, ⟨⟩⟩, fo14, ⟨⟩⟩⟩⟩, fo15, ⟨⟨⟨⟨⟨⟩, fo16, ⟨⟩⟩, fo17, ⟨⟨⟩, fo18, ⟨⟩⟩⟩, fo19, ⟨⟨⟨⟩, fo20, ⟨⟩⟩, fo21, ⟨⟩⟩⟩, fo22, ⟨⟨⟨⟨⟩, fo23, ⟨⟩⟩, fo24, ⟨⟩⟩, fo25, ⟨⟨⟨⟩, fo26, ⟨⟩⟩, fo27, ⟨⟩⟩⟩⟩⟩, fo28, ⟨⟨⟨⟨⟨⟨⟩, fo29, ⟨⟩⟩, fo30, ⟨⟨⟩, fo31, ⟨⟩⟩⟩, fo32, ⟨⟨⟨⟩, fo33, ⟨⟩⟩, fo34, ⟨⟩⟩⟩, fo35, ⟨⟨⟨⟨⟩, fo36, ⟨⟩⟩, fo37, ⟨⟩⟩, fo38, ⟨⟨⟨⟩, fo39, ⟨⟩⟩, fo40, ⟨⟩⟩⟩⟩, fo41, ⟨⟨⟨⟨⟨⟩, fo42, ⟨⟩⟩, fo43, ⟨⟨⟩, fo44, ⟨⟩⟩⟩, fo45, ⟨⟨⟨⟩, fo46, ⟨⟩⟩, fo47, ⟨⟩⟩⟩, fo48, ⟨⟨⟨⟨⟩, fo49, ⟨⟩⟩, fo50, ⟨⟩⟩, fo51, ⟨⟨⟨⟩, fo52, ⟨⟩⟩, fo53, ⟨⟩⟩⟩⟩⟩⟩, fo54, ⟨⟨⟨⟨⟨⟨⟨⟩, fo55, ⟨⟩⟩, fo56, ⟨⟨⟩, fo57, ⟨⟩⟩⟩, fo58, ⟨⟨⟨⟩, fo59, ⟨⟩⟩, fo60, ⟨⟩⟩⟩, fo61, ⟨⟨⟨⟨⟩, fo62, ⟨⟩⟩, fo63, ⟨⟩⟩, fo64, ⟨⟨⟨⟩, fo65, ⟨⟩⟩, fo66, ⟨⟩⟩⟩⟩, fo67, ⟨⟨⟨⟨⟨⟩, fo69, ⟨⟩⟩, fo70, ⟨⟨⟩, fo71, ⟨⟩⟩⟩, fo72, ⟨⟨⟨⟩, fo73, ⟨⟩⟩, fo74, ⟨⟩⟩⟩, fo75, ⟨⟨⟨⟨⟩, fo76, ⟨⟩⟩, fo77, ⟨⟩⟩, fo78, ⟨⟨⟨⟩, fo79, ⟨⟩⟩, fo81, ⟨⟩⟩⟩⟩⟩, fo82, ⟨⟨⟨⟨⟨⟨⟩, fo83, ⟨⟩⟩, fo84, ⟨⟨⟩, fo85, ⟨⟩⟩⟩, fo86, ⟨⟨⟨⟩, fo87, ⟨⟩⟩, fo88, ⟨⟩⟩⟩, fo89, ⟨⟨⟨⟨⟩, fo90, ⟨⟩⟩, fo91, ⟨⟩⟩, fo92, ⟨⟨⟨⟩, fo93, ⟨⟩⟩, fo94, ⟨⟩⟩⟩⟩, fo96, ⟨⟨⟨⟨⟨⟩, fo97, ⟨⟩⟩, fo98, ⟨⟩⟩, fo99, ⟨⟨⟨⟩, fo100, ⟨⟩⟩, fo101, ⟨⟩⟩⟩, fo102, ⟨⟨⟨⟨⟩, fo103, ⟨⟩⟩, fo105, ⟨⟩⟩, fo106, ⟨⟨⟨⟩, fo107, ⟨⟩⟩, fo108, ⟨⟩⟩⟩⟩⟩⟩⟩
theorem tab_fn (f : FuncId) (e : FE) (h : tab f = some e) : FnOk cx f e.body e.N e.rs ∧ BodyOk cx f pF e.q := Tr.ok tabA h
noncomputable def extF : FuncId → List AVal → Option AVal := extT 104 68
theorem tabOk : TabOk cx tab extF := ⟨tab_fn, extT_ok ⟨_, Tryd.func104, by kernel_rfl, by kernel_rfl, by kernel_rfl, by kernel_rfl⟩ ⟨_, Tryd.func68, by kernel_rfl, by kernel_rfl, by kernel_rfl, by kernel_rfl⟩, cxG, cxOk⟩
end Go.Am
