/- The seat's types and functions, as tables. Printed by a program. -/
import Derived.Test.YtbkfnbnechpolaaDoorProg
import Derived.Test.YtbkfnbnechpolaaDoorAmShelf
import Derived.Lib.ItoaNum
import Derived.KernelRfl
set_option linter.unusedVariables false
set_option linter.unusedSimpArgs false
namespace Go.Am
open Go Go.Proofs
set_option maxRecDepth 100000
def ti1 : TI := ⟨(.func #[] #[] false), 1, 8, [.nilfn]⟩
def ti2 : TI := ⟨(.int .i64), 1, 8, [(.int .i64 0)]⟩
def ti3 : TI := ⟨(.int .i64), 1, 8, [(.int .i64 0)]⟩
def ti4 : TI := ⟨.bool, 1, 1, [(.bool false)]⟩
def ti5 : TI := ⟨(.int .u8), 1, 1, [(.int .u8 0)]⟩
def ti6 : TI := ⟨(.int .u8), 1, 1, [(.int .u8 0)]⟩
def ti7 : TI := ⟨(.struct #[⟨ "x", 2, 0, false, "", "runtime", 0⟩, ⟨ "y", 3, 1, false, "", "runtime", 8⟩, ⟨ "signed", 4, 2, false, "", "runtime", 16⟩, ⟨ "code", 6, 3, false, "", "runtime", 17⟩]), 4, 24, [(.int .i64 0), (.int .i64 0), (.bool false), (.int .u8 0)]⟩
def ti8 : TI := ⟨(.struct #[⟨ "x", 2, 0, false, "", "runtime", 0⟩, ⟨ "y", 3, 1, false, "", "runtime", 8⟩, ⟨ "signed", 4, 2, false, "", "runtime", 16⟩, ⟨ "code", 6, 3, false, "", "runtime", 17⟩]), 4, 24, [(.int .i64 0), (.int .i64 0), (.bool false), (.int .u8 0)]⟩
def ti9 : TI := ⟨.string, 1, 16, [(.str [])]⟩
def ti10 : TI := ⟨.string, 1, 16, [(.str [])]⟩
def ti11 : TI := ⟨.string, 1, 16, [(.str [])]⟩
def ti12 : TI := ⟨(.int .u64), 1, 8, [(.int .u64 0)]⟩
def ti13 : TI := ⟨(.struct #[⟨ "msg", 9, 0, false, "", "runtime", 0⟩, ⟨ "addr", 12, 1, false, "", "runtime", 16⟩]), 2, 24, [(.str []), (.int .u64 0)]⟩
def ti14 : TI := ⟨(.struct #[⟨ "msg", 9, 0, false, "", "runtime", 0⟩, ⟨ "addr", 12, 1, false, "", "runtime", 16⟩]), 2, 24, [(.str []), (.int .u64 0)]⟩
def ti15 : TI := ⟨(.pointer 154), 1, 8, [.nilp]⟩
def ti16 : TI := ⟨(.pointer 157), 1, 8, [.nilp]⟩
def ti17 : TI := ⟨(.pointer 165), 1, 8, [.nilp]⟩
def ti18 : TI := ⟨(.struct #[⟨ "typ", 17, 0, false, "", "internal/runtime/maps", 0⟩]), 1, 8, [.nilp]⟩
def ti19 : TI := ⟨(.struct #[⟨ "typ", 17, 0, false, "", "internal/runtime/maps", 0⟩]), 1, 8, [.nilp]⟩
def ti20 : TI := ⟨(.interface #[]), 1, 16, [.nilifc]⟩
def ti21 : TI := ⟨(.int .i32), 1, 4, [(.int .i32 0)]⟩
def ti22 : TI := ⟨(.int .u64), 1, 8, [(.int .u64 0)]⟩
def ti23 : TI := ⟨(.func #[] #[4] false), 1, 8, [.nilfn]⟩
def ti24 : TI := ⟨(.int .i64), 1, 8, [(.int .i64 0)]⟩
def ti25 : TI := ⟨(.struct #[⟨ "Op", 24, 0, false, "", "", 0⟩, ⟨ "D", 3, 1, false, "", "", 8⟩, ⟨ "A", 3, 2, false, "", "", 16⟩, ⟨ "B", 3, 3, false, "", "", 24⟩, ⟨ "Imm", 2, 4, false, "", "", 32⟩]), 5, 40, [(.int .i64 0), (.int .i64 0), (.int .i64 0), (.int .i64 0), (.int .i64 0)]⟩
def ti26 : TI := ⟨(.struct #[⟨ "Op", 24, 0, false, "", "", 0⟩, ⟨ "D", 3, 1, false, "", "", 8⟩, ⟨ "A", 3, 2, false, "", "", 16⟩, ⟨ "B", 3, 3, false, "", "", 24⟩, ⟨ "Imm", 2, 4, false, "", "", 32⟩]), 5, 40, [(.int .i64 0), (.int .i64 0), (.int .i64 0), (.int .i64 0), (.int .i64 0)]⟩
def ti27 : TI := ⟨(.int .i64), 1, 8, [(.int .i64 0)]⟩
def ti29 : TI := ⟨(.func #[22] #[26, 27] false), 1, 8, [.nilfn]⟩
def ti31 : TI := ⟨(.func #[22] #[26, 4] false), 1, 8, [.nilfn]⟩
def ti32 : TI := ⟨(.func #[27] #[3] false), 1, 8, [.nilfn]⟩
def ti33 : TI := ⟨(.func #[9] #[26, 27] false), 1, 8, [.nilfn]⟩
def ti34 : TI := ⟨(.func #[9] #[26, 4] false), 1, 8, [.nilfn]⟩
def ti35 : TI := ⟨(.func #[22, 9] #[4] false), 1, 8, [.nilfn]⟩
def ti36 : TI := ⟨(.array 8 22), 8, 64, [(.int .u64 0), (.int .u64 0), (.int .u64 0), (.int .u64 0), (.int .u64 0), (.int .u64 0), (.int .u64 0), (.int .u64 0)]⟩
def ti37 : TI := ⟨(.struct #[⟨ "Regs", 36, 0, false, "", "", 0⟩, ⟨ "PC", 22, 8, false, "", "", 64⟩]), 9, 72, List.replicate 9 (.int .u64 0)⟩
def ti38 : TI := ⟨(.struct #[⟨ "Regs", 36, 0, false, "", "", 0⟩, ⟨ "PC", 22, 8, false, "", "", 64⟩]), 9, 72, List.replicate 9 (.int .u64 0)⟩
def ti39 : TI := ⟨(.int .i64), 1, 8, [(.int .i64 0)]⟩
def ti40 : TI := ⟨(.struct #[⟨ "Kind", 39, 0, false, "", "", 0⟩, ⟨ "Number", 3, 1, false, "", "", 8⟩]), 2, 16, [(.int .i64 0), (.int .i64 0)]⟩
def ti41 : TI := ⟨(.struct #[⟨ "Kind", 39, 0, false, "", "", 0⟩, ⟨ "Number", 3, 1, false, "", "", 8⟩]), 2, 16, [(.int .i64 0), (.int .i64 0)]⟩
def ti43 : TI := ⟨(.func #[38, 26, 22] #[38, 41] false), 1, 8, [.nilfn]⟩
def ti44 : TI := ⟨(.int .i64), 1, 8, [(.int .i64 0)]⟩
def ti45 : TI := ⟨(.struct #[⟨ "Kind", 44, 0, false, "", "", 0⟩, ⟨ "Addr", 22, 1, false, "", "", 8⟩, ⟨ "Word", 22, 2, false, "", "", 16⟩]), 3, 24, [(.int .i64 0), (.int .u64 0), (.int .u64 0)]⟩
def ti46 : TI := ⟨(.struct #[⟨ "Kind", 44, 0, false, "", "", 0⟩, ⟨ "Addr", 22, 1, false, "", "", 8⟩, ⟨ "Word", 22, 2, false, "", "", 16⟩]), 3, 24, [(.int .i64 0), (.int .u64 0), (.int .u64 0)]⟩
def ti47 : TI := ⟨(.func #[38, 26] #[46] false), 1, 8, [.nilfn]⟩
def ti48 : TI := ⟨(.func #[38, 26, 22] #[4] false), 1, 8, [.nilfn]⟩
def ti50 : TI := ⟨(.func #[26] #[22, 27] false), 1, 8, [.nilfn]⟩
def ti52 : TI := ⟨(.func #[26] #[9, 27] false), 1, 8, [.nilfn]⟩
def ti53 : TI := ⟨(.func #[26] #[4] false), 1, 8, [.nilfn]⟩
def ti54 : TI := ⟨(.func #[26] #[22] false), 1, 8, [.nilfn]⟩
def ti55 : TI := ⟨(.func #[26] #[9] false), 1, 8, [.nilfn]⟩
def ti57 : TI := ⟨(.func #[38, 3, 22] #[38, 27] false), 1, 8, [.nilfn]⟩
def ti58 : TI := ⟨(.func #[38, 3, 22] #[4] false), 1, 8, [.nilfn]⟩
def ti59 : TI := ⟨(.slice 22), 1, 24, [(.sl 1 true [] .any)]⟩
def ti60 : TI := ⟨(.func #[59] #[9, 27] true), 1, 8, [.nilfn]⟩
def ti62 : TI := ⟨(.func #[9] #[59, 3, 27] false), 1, 8, [.nilfn]⟩
def ti63 : TI := ⟨(.func #[59, 59] #[4] false), 1, 8, [.nilfn]⟩
def ti64 : TI := ⟨(.func #[26, 38, 22, 59] #[4] false), 1, 8, [.nilfn]⟩
def ti65 : TI := ⟨(.slice 26), 1, 24, [(.sl 1 true [] .any)]⟩
def ti66 : TI := ⟨(.func #[65, 38, 22] #[4] false), 1, 8, [.nilfn]⟩
def ti67 : TI := ⟨(.int .u64), 1, 8, [(.int .u64 0)]⟩
def ti68 : TI := ⟨(.slice 5), 1, 24, [(.sl 1 true [] .any)]⟩
def ti69 : TI := ⟨(.func #[22, 3] #[68] false), 1, 8, [.nilfn]⟩
def ti70 : TI := ⟨(.func #[68] #[22] false), 1, 8, [.nilfn]⟩
def ti71 : TI := ⟨(.func #[9, 72] #[26, 4] false), 1, 8, [.nilfn]⟩
def ti72 : TI := ⟨(.map 24 85), 1, 8, [.nilmap]⟩
def ti73 : TI := ⟨(.func #[] #[72] false), 1, 8, [.nilfn]⟩
def ti74 : TI := ⟨(.slice 9), 1, 24, [(.sl 1 true [] .any)]⟩
def ti75 : TI := ⟨(.func #[9] #[74] false), 1, 8, [.nilfn]⟩
def ti76 : TI := ⟨(.struct #[⟨ "d", 4, 0, false, "", "anchorite/anchoriteref13", 0⟩, ⟨ "a", 4, 1, false, "", "anchorite/anchoriteref13", 1⟩, ⟨ "b", 4, 2, false, "", "anchorite/anchoriteref13", 2⟩, ⟨ "imm", 4, 3, false, "", "anchorite/anchoriteref13", 3⟩, ⟨ "word", 9, 4, false, "", "anchorite/anchoriteref13", 8⟩]), 5, 24, [(.bool false), (.bool false), (.bool false), (.bool false), (.str [])]⟩
def ti77 : TI := ⟨(.struct #[⟨ "d", 4, 0, false, "", "anchorite/anchoriteref13", 0⟩, ⟨ "a", 4, 1, false, "", "anchorite/anchoriteref13", 1⟩, ⟨ "b", 4, 2, false, "", "anchorite/anchoriteref13", 2⟩, ⟨ "imm", 4, 3, false, "", "anchorite/anchoriteref13", 3⟩, ⟨ "word", 9, 4, false, "", "anchorite/anchoriteref13", 8⟩]), 5, 24, [(.bool false), (.bool false), (.bool false), (.bool false), (.str [])]⟩
def ti78 : TI := ⟨(.func #[24] #[77] false), 1, 8, [.nilfn]⟩
def ti79 : TI := ⟨(.slice 4), 1, 24, [(.sl 1 true [] .any)]⟩
def ti80 : TI := ⟨(.func #[9] #[2] false), 1, 8, [.nilfn]⟩
def ti81 : TI := ⟨(.func #[22, 22] #[22] false), 1, 8, [.nilfn]⟩
def ti82 : TI := ⟨(.map 24 81), 1, 8, [.nilmap]⟩
def ti83 : TI := ⟨(.func #[] #[82] false), 1, 8, [.nilfn]⟩
def ti84 : TI := ⟨(.struct #[⟨ "word", 9, 0, false, "", "anchorite/cpu", 0⟩, ⟨ "parts", 9, 1, false, "", "anchorite/cpu", 16⟩]), 2, 32, [(.str []), (.str [])]⟩
def ti85 : TI := ⟨(.struct #[⟨ "word", 9, 0, false, "", "anchorite/cpu", 0⟩, ⟨ "parts", 9, 1, false, "", "anchorite/cpu", 16⟩]), 2, 32, [(.str []), (.str [])]⟩
def ti86 : TI := ⟨(.func #[26, 85] #[4] false), 1, 8, [.nilfn]⟩
def ti87 : TI := ⟨(.func #[26, 85] #[9] false), 1, 8, [.nilfn]⟩
def ti88 : TI := ⟨(.func #[4, 3] #[4] false), 1, 8, [.nilfn]⟩
def ti89 : TI := ⟨(.func #[3] #[9] false), 1, 8, [.nilfn]⟩
def ti90 : TI := ⟨(.func #[2, 3] #[9] false), 1, 8, [.nilfn]⟩
def ti91 : TI := ⟨(.pointer 93), 1, 8, [.nilp]⟩
def ti92 : TI := ⟨(.struct #[⟨ "addr", 91, 0, false, "", "strings", 0⟩, ⟨ "buf", 68, 1, false, "", "strings", 8⟩]), 2, 32, [.nilp, (.sl 1 true [] .any)]⟩
def ti93 : TI := ⟨(.struct #[⟨ "addr", 91, 0, false, "", "strings", 0⟩, ⟨ "buf", 68, 1, false, "", "strings", 8⟩]), 2, 32, [.nilp, (.sl 1 true [] .any)]⟩
def ti94 : TI := ⟨(.func #[59] #[59] false), 1, 8, [.nilfn]⟩
def ti95 : TI := ⟨(.interface #[("Error", 99)]), 1, 16, [.nilifc]⟩
def ti96 : TI := ⟨(.interface #[("Error", 99)]), 1, 16, [.nilifc]⟩
def ti98 : TI := ⟨(.func #[9] #[3, 96] false), 1, 8, [.nilfn]⟩
def ti99 : TI := ⟨(.func #[] #[9] false), 1, 8, [.nilfn]⟩
def ti100 : TI := ⟨(.func #[9, 9] #[74] false), 1, 8, [.nilfn]⟩
def ti101 : TI := ⟨(.func #[9, 9] #[9] false), 1, 8, [.nilfn]⟩
def ti102 : TI := ⟨(.func #[9, 9] #[4] false), 1, 8, [.nilfn]⟩
def ti103 : TI := ⟨(.func #[9, 3] #[4] false), 1, 8, [.nilfn]⟩
def ti104 : TI := ⟨(.pointer 5), 1, 8, [.nilp]⟩
def ti105 : TI := ⟨(.func #[9, 9, 3, 3] #[74] false), 1, 8, [.nilfn]⟩
def ti107 : TI := ⟨(.func #[9, 3, 3] #[2, 96] false), 1, 8, [.nilfn]⟩
def ti108 : TI := ⟨(.func #[9, 9] #[3] false), 1, 8, [.nilfn]⟩
def ti109 : TI := ⟨(.array 24 5), 24, 24, bl (List.replicate 24 0)⟩
def ti110 : TI := ⟨(.func #[22] #[3] false), 1, 8, [.nilfn]⟩
def ti111 : TI := ⟨(.func #[68, 22] #[] false), 1, 8, [.nilfn]⟩
def ti113 : TI := ⟨(.func #[68, 22, 3, 4, 4] #[68, 9] false), 1, 8, [.nilfn]⟩
def ti114 : TI := ⟨.unsafePointer, 1, 8, [.nilp]⟩
def ti115 : TI := ⟨(.func #[114] #[114] false), 1, 8, [.nilfn]⟩
def ti116 : TI := ⟨(.func #[9, 3] #[74] false), 1, 8, [.nilfn]⟩
def ti117 : TI := ⟨(.func #[9, 9, 3, 3, 96] #[96] false), 1, 8, [.nilfn]⟩
def ti118 : TI := ⟨(.func #[3] #[3] false), 1, 8, [.nilfn]⟩
def ti119 : TI := ⟨(.func #[4] #[3] false), 1, 8, [.nilfn]⟩
def ti120 : TI := ⟨(.array 20 22), 20, 160, List.replicate 20 (.int .u64 0)⟩
def ti121 : TI := ⟨(.int .u32), 1, 4, [(.int .u32 0)]⟩
def ti122 : TI := ⟨(.array 65 5), 65, 65, bl (List.replicate 65 0)⟩
def ti123 : TI := ⟨(.func #[3] #[4] false), 1, 8, [.nilfn]⟩
def ti124 : TI := ⟨(.func #[67] #[3] false), 1, 8, [.nilfn]⟩
def ti125 : TI := ⟨(.func #[9] #[3] false), 1, 8, [.nilfn]⟩
def ti127 : TI := ⟨(.func #[9] #[21, 3] false), 1, 8, [.nilfn]⟩
def ti128 : TI := ⟨(.func #[9, 5] #[3] false), 1, 8, [.nilfn]⟩
def ti129 : TI := ⟨(.int .i64), 1, 8, [(.int .i64 0)]⟩
def ti131 : TI := ⟨(.func #[9, 3, 3] #[22, 96] false), 1, 8, [.nilfn]⟩
def ti132 : TI := ⟨(.pointer 140), 1, 8, [.nilp]⟩
def ti133 : TI := ⟨(.func #[9, 9] #[132] false), 1, 8, [.nilfn]⟩
def ti134 : TI := ⟨(.func #[9, 9, 3] #[132] false), 1, 8, [.nilfn]⟩
def ti135 : TI := ⟨(.func #[121] #[3] false), 1, 8, [.nilfn]⟩
def ti136 : TI := ⟨(.func #[5] #[5] false), 1, 8, [.nilfn]⟩
def ti137 : TI := ⟨(.func #[9] #[4] false), 1, 8, [.nilfn]⟩
def ti138 : TI := ⟨(.func #[9] #[9] false), 1, 8, [.nilfn]⟩
def ti139 : TI := ⟨(.struct #[⟨ "Func", 9, 0, false, "", "", 0⟩, ⟨ "Num", 9, 1, false, "", "", 16⟩, ⟨ "Err", 96, 2, false, "", "", 32⟩]), 3, 48, [(.str []), (.str []), .nilifc]⟩
def ti140 : TI := ⟨(.struct #[⟨ "Func", 9, 0, false, "", "", 0⟩, ⟨ "Num", 9, 1, false, "", "", 16⟩, ⟨ "Err", 96, 2, false, "", "", 32⟩]), 3, 48, [(.str []), (.str []), .nilifc]⟩
def ti141 : TI := ⟨(.func #[9] #[96] false), 1, 8, [.nilfn]⟩
def ti143 : TI := ⟨(.func #[9] #[121, 121] false), 1, 8, [.nilfn]⟩
def ti144 : TI := ⟨(.array 32 5), 32, 32, bl (List.replicate 32 0)⟩
def ti145 : TI := ⟨(.array 64 5), 64, 64, bl (List.replicate 64 0)⟩
def ti146 : TI := ⟨(.array 256 5), 256, 256, bl (List.replicate 256 0)⟩
def ti147 : TI := ⟨(.struct #[⟨ "lo", 5, 0, false, "", "unicode/utf8", 0⟩, ⟨ "hi", 5, 1, false, "", "unicode/utf8", 1⟩]), 2, 2, [(.int .u8 0), (.int .u8 0)]⟩
def ti148 : TI := ⟨(.struct #[⟨ "lo", 5, 0, false, "", "unicode/utf8", 0⟩, ⟨ "hi", 5, 1, false, "", "unicode/utf8", 1⟩]), 2, 2, [(.int .u8 0), (.int .u8 0)]⟩
def ti149 : TI := ⟨(.array 16 148), 32, 32, bl (List.replicate 32 0)⟩
def ti150 : TI := ⟨(.pointer 152), 1, 8, [.nilp]⟩
def ti151 : TI := ⟨(.struct #[⟨ "s", 9, 0, false, "", "errors", 0⟩]), 1, 16, [(.str [])]⟩
def ti152 : TI := ⟨(.struct #[⟨ "s", 9, 0, false, "", "errors", 0⟩]), 1, 16, [(.str [])]⟩
def ti153 : TI := ⟨(.struct #[⟨ "_interface", 17, 0, false, "", "runtime", 0⟩, ⟨ "concrete", 17, 1, false, "", "runtime", 8⟩, ⟨ "asserted", 17, 2, false, "", "runtime", 16⟩, ⟨ "missingMethod", 9, 3, false, "", "runtime", 24⟩]), 4, 40, [.nilp, .nilp, .nilp, (.str [])]⟩
def ti154 : TI := ⟨(.struct #[⟨ "_interface", 17, 0, false, "", "runtime", 0⟩, ⟨ "concrete", 17, 1, false, "", "runtime", 8⟩, ⟨ "asserted", 17, 2, false, "", "runtime", 16⟩, ⟨ "missingMethod", 9, 3, false, "", "runtime", 24⟩]), 4, 40, [.nilp, .nilp, .nilp, (.str [])]⟩
def ti155 : TI := ⟨(.array 0 16), 0, 0, []⟩
def ti156 : TI := ⟨(.struct #[⟨ "_", 155, 0, false, "", "runtime", 0⟩]), 0, 0, []⟩
def ti157 : TI := ⟨(.struct #[⟨ "_", 155, 0, false, "", "runtime", 0⟩]), 0, 0, []⟩
def ti158 : TI := ⟨(.func #[] #[3] false), 1, 8, [.nilfn]⟩
def ti159 : TI := ⟨(.int .u8), 1, 1, [(.int .u8 0)]⟩
def ti160 : TI := ⟨(.int .u8), 1, 1, [(.int .u8 0)]⟩
def ti161 : TI := ⟨(.func #[114, 114] #[4] false), 1, 8, [.nilfn]⟩
def ti162 : TI := ⟨(.int .i32), 1, 4, [(.int .i32 0)]⟩
def ti163 : TI := ⟨(.int .i32), 1, 4, [(.int .i32 0)]⟩
def ti164 : TI := ⟨(.struct #[⟨ "Size_", 12, 0, false, "", "", 0⟩, ⟨ "PtrBytes", 12, 1, false, "", "", 8⟩, ⟨ "Hash", 121, 2, false, "", "", 16⟩, ⟨ "TFlag", 159, 3, false, "", "", 20⟩, ⟨ "Align_", 5, 4, false, "", "", 21⟩, ⟨ "FieldAlign_", 5, 5, false, "", "", 22⟩, ⟨ "Kind_", 160, 6, false, "", "", 23⟩, ⟨ "Equal", 161, 7, false, "", "", 24⟩, ⟨ "GCData", 104, 8, false, "", "", 32⟩, ⟨ "Str", 162, 9, false, "", "", 40⟩, ⟨ "PtrToThis", 163, 10, false, "", "", 44⟩]), 11, 48, [(.int .u64 0), (.int .u64 0), (.int .u32 0), (.int .u8 0), (.int .u8 0), (.int .u8 0), (.int .u8 0), .nilfn, .nilp, (.int .i32 0), (.int .i32 0)]⟩
def ti165 : TI := ⟨(.struct #[⟨ "Size_", 12, 0, false, "", "", 0⟩, ⟨ "PtrBytes", 12, 1, false, "", "", 8⟩, ⟨ "Hash", 121, 2, false, "", "", 16⟩, ⟨ "TFlag", 159, 3, false, "", "", 20⟩, ⟨ "Align_", 5, 4, false, "", "", 21⟩, ⟨ "FieldAlign_", 5, 5, false, "", "", 22⟩, ⟨ "Kind_", 160, 6, false, "", "", 23⟩, ⟨ "Equal", 161, 7, false, "", "", 24⟩, ⟨ "GCData", 104, 8, false, "", "", 32⟩, ⟨ "Str", 162, 9, false, "", "", 40⟩, ⟨ "PtrToThis", 163, 10, false, "", "", 44⟩]), 11, 48, [(.int .u64 0), (.int .u64 0), (.int .u32 0), (.int .u8 0), (.int .u8 0), (.int .u8 0), (.int .u8 0), .nilfn, .nilp, (.int .i32 0), (.int .i32 0)]⟩
def tT (t : TypeId) : Option TI := (bif Nat.blt t 84 then (bif Nat.blt t 41 then (bif Nat.blt t 20 then (bif Nat.blt t 10 then (bif Nat.blt t 5 then (bif Nat.blt t 3 then (bif Nat.blt t 2 then (bif Nat.blt t 1 then none else bif Nat.beq t 1 then some ti1 else none) else bif Nat.beq t 2 then some ti2 else none) else bif Nat.beq t 3 then some ti3 else (bif Nat.blt t 4 then none else bif Nat.beq t 4 then some ti4 else none)) else bif Nat.beq t 5 then some ti5 else (bif Nat.blt t 8 then (bif Nat.blt t 7 then (bif Nat.blt t 6 then none else bif Nat.beq t 6 then some ti6 else none) else bif Nat.beq t 7 then some ti7 else none) else bif Nat.beq t 8 then some ti8 else (bif Nat.blt t 9 then none else bif Nat.beq t 9 then some ti9 else none))) else bif Nat.beq t 10 then some ti10 else (bif Nat.blt t 15 then (bif Nat.blt t 13 then (bif Nat.blt t 12 then (bif Nat.blt t 11 then none else bif Nat.beq t 11 then some ti11 else none) else bif Nat.beq t 12 then some ti12 else none) else bif Nat.beq t 13 then some ti13 else (bif Nat.blt t 14 then none else bif Nat.beq t 14 then some ti14 else none)) else bif Nat.beq t 15 then some ti15 else (bif Nat.blt t 18 then (bif Nat.blt t 17 then (bif Nat.blt t 16 then none else bif Nat.beq t 16 then some ti16 else none) else bif Nat.beq t 17 then some ti17 else none) else bif Nat.beq t 18 then some ti18 else (bif Nat.blt t 19 then none else bif Nat.beq t 19 then some ti19 else none)))) else bif Nat.beq t 20 then some ti20 else (bif Nat.blt t 32 then (bif Nat.blt t 25 then (bif Nat.blt t 23 then (bif Nat.blt t 22 then (bif Nat.blt t 21 then none else bif Nat.beq t 21 then some ti21 else none) else bif Nat.beq t 22 then some ti22 else none) else bif Nat.beq t 23 then some ti23 else (bif Nat.blt t 24 then none else bif Nat.beq t 24 then some ti24 else none)) else bif Nat.beq t 25 then some ti25 else (bif Nat.blt t 29 then (bif Nat.blt t 27 then (bif Nat.blt t 26 then none else bif Nat.beq t 26 then some ti26 else none) else bif Nat.beq t 27 then some ti27 else none) else bif Nat.beq t 29 then some ti29 else (bif Nat.blt t 31 then none else bif Nat.beq t 31 then some ti31 else none))) else bif Nat.beq t 32 then some ti32 else (bif Nat.blt t 37 then (bif Nat.blt t 35 then (bif Nat.blt t 34 then (bif Nat.blt t 33 then none else bif Nat.beq t 33 then some ti33 else none) else bif Nat.beq t 34 then some ti34 else none) else bif Nat.beq t 35 then some ti35 else (bif Nat.blt t 36 then none else bif Nat.beq t 36 then some ti36 else none)) else bif Nat.beq t 37 then some ti37 else (bif Nat.blt t 39 then (bif Nat.blt t 38 then none else bif Nat.beq t 38 then some ti38 else none) else bif Nat.beq t 39 then some ti39 else (bif Nat.blt t 40 then none else bif Nat.beq t 40 then some ti40 else none))))) else bif Nat.beq t 41 then some ti41 else (bif Nat.blt t 65 then (bif Nat.blt t 54 then (bif Nat.blt t 47 then (bif Nat.blt t 45 then (bif Nat.blt t 44 then (bif Nat.blt t 43 then none else bif Nat.beq t 43 then some ti43 else none) else bif Nat.beq t 44 then some ti44 else none) else bif Nat.beq t 45 then some ti45 else (bif Nat.blt t 46 then none else bif Nat.beq t 46 then some ti46 else none)) else bif Nat.beq t 47 then some ti47 else (bif Nat.blt t 52 then (bif Nat.blt t 50 then (bif Nat.blt t 48 then none else bif Nat.beq t 48 then some ti48 else none) else bif Nat.beq t 50 then some ti50 else none) else bif Nat.beq t 52 then some ti52 else (bif Nat.blt t 53 then none else bif Nat.beq t 53 then some ti53 else none))) else bif Nat.beq t 54 then some ti54 else (bif Nat.blt t 60 then (bif Nat.blt t 58 then (bif Nat.blt t 57 then (bif Nat.blt t 55 then none else bif Nat.beq t 55 then some ti55 else none) else bif Nat.beq t 57 then some ti57 else none) else bif Nat.beq t 58 then some ti58 else (bif Nat.blt t 59 then none else bif Nat.beq t 59 then some ti59 else none)) else bif Nat.beq t 60 then some ti60 else (bif Nat.blt t 63 then (bif Nat.blt t 62 then none else bif Nat.beq t 62 then some ti62 else none) else bif Nat.beq t 63 then some ti63 else (bif Nat.blt t 64 then none else bif Nat.beq t 64 then some ti64 else none)))) else bif Nat.beq t 65 then some ti65 else (bif Nat.blt t 75 then (bif Nat.blt t 70 then (bif Nat.blt t 68 then (bif Nat.blt t 67 then (bif Nat.blt t 66 then none else bif Nat.beq t 66 then some ti66 else none) else bif Nat.beq t 67 then some ti67 else none) else bif Nat.beq t 68 then some ti68 else (bif Nat.blt t 69 then none else bif Nat.beq t 69 then some ti69 else none)) else bif Nat.beq t 70 then some ti70 else (bif Nat.blt t 73 then (bif Nat.blt t 72 then (bif Nat.blt t 71 then none else bif Nat.beq t 71 then some ti71 else none) else bif Nat.beq t 72 then some ti72 else none) else bif Nat.beq t 73 then some ti73 else (bif Nat.blt t 74 then none else bif Nat.beq t 74 then some ti74 else none))) else bif Nat.beq t 75 then some ti75 else (bif Nat.blt t 80 then (bif Nat.blt t 78 then (bif Nat.blt t 77 then (bif Nat.blt t 76 then none else bif Nat.beq t 76 then some ti76 else none) else bif Nat.beq t 77 then some ti77 else none) else bif Nat.beq t 78 then some ti78 else (bif Nat.blt t 79 then none else bif Nat.beq t 79 then some ti79 else none)) else bif Nat.beq t 80 then some ti80 else (bif Nat.blt t 82 then (bif Nat.blt t 81 then none else bif Nat.beq t 81 then some ti81 else none) else bif Nat.beq t 82 then some ti82 else (bif Nat.blt t 83 then none else bif Nat.beq t 83 then some ti83 else none)))))) else bif Nat.beq t 84 then some ti84 else (bif Nat.blt t 125 then (bif Nat.blt t 104 then (bif Nat.blt t 94 then (bif Nat.blt t 89 then (bif Nat.blt t 87 then (bif Nat.blt t 86 then (bif Nat.blt t 85 then none else bif Nat.beq t 85 then some ti85 else none) else bif Nat.beq t 86 then some ti86 else none) else bif Nat.beq t 87 then some ti87 else (bif Nat.blt t 88 then none else bif Nat.beq t 88 then some ti88 else none)) else bif Nat.beq t 89 then some ti89 else (bif Nat.blt t 92 then (bif Nat.blt t 91 then (bif Nat.blt t 90 then none else bif Nat.beq t 90 then some ti90 else none) else bif Nat.beq t 91 then some ti91 else none) else bif Nat.beq t 92 then some ti92 else (bif Nat.blt t 93 then none else bif Nat.beq t 93 then some ti93 else none))) else bif Nat.beq t 94 then some ti94 else (bif Nat.blt t 100 then (bif Nat.blt t 98 then (bif Nat.blt t 96 then (bif Nat.blt t 95 then none else bif Nat.beq t 95 then some ti95 else none) else bif Nat.beq t 96 then some ti96 else none) else bif Nat.beq t 98 then some ti98 else (bif Nat.blt t 99 then none else bif Nat.beq t 99 then some ti99 else none)) else bif Nat.beq t 100 then some ti100 else (bif Nat.blt t 102 then (bif Nat.blt t 101 then none else bif Nat.beq t 101 then some ti101 else none) else bif Nat.beq t 102 then some ti102 else (bif Nat.blt t 103 then none else bif Nat.beq t 103 then some ti103 else none)))) else bif Nat.beq t 104 then some ti104 else (bif Nat.blt t 116 then (bif Nat.blt t 110 then (bif Nat.blt t 108 then (bif Nat.blt t 107 then (bif Nat.blt t 105 then none else bif Nat.beq t 105 then some ti105 else none) else bif Nat.beq t 107 then some ti107 else none) else bif Nat.beq t 108 then some ti108 else (bif Nat.blt t 109 then none else bif Nat.beq t 109 then some ti109 else none)) else bif Nat.beq t 110 then some ti110 else (bif Nat.blt t 114 then (bif Nat.blt t 113 then (bif Nat.blt t 111 then none else bif Nat.beq t 111 then some ti111 else none) else bif Nat.beq t 113 then some ti113 else none) else bif Nat.beq t 114 then some ti114 else (bif Nat.blt t 115 then none else bif Nat.beq t 115 then some ti115 else none))) else bif Nat.beq t 116 then some ti116 else (bif Nat.blt t 121 then (bif Nat.blt t 119 then (bif Nat.blt t 118 then (bif Nat.blt t 117 then none else bif Nat.beq t 117 then some ti117 else none) else bif Nat.beq t 118 then some ti118 else none) else bif Nat.beq t 119 then some ti119 else (bif Nat.blt t 120 then none else bif Nat.beq t 120 then some ti120 else none)) else bif Nat.beq t 121 then some ti121 else (bif Nat.blt t 123 then (bif Nat.blt t 122 then none else bif Nat.beq t 122 then some ti122 else none) else bif Nat.beq t 123 then some ti123 else (bif Nat.blt t 124 then none else bif Nat.beq t 124 then some ti124 else none))))) else bif Nat.beq t 125 then some ti125 else (bif Nat.blt t 147 then (bif Nat.blt t 137 then (bif Nat.blt t 132 then (bif Nat.blt t 129 then (bif Nat.blt t 128 then (bif Nat.blt t 127 then none else bif Nat.beq t 127 then some ti127 else none) else bif Nat.beq t 128 then some ti128 else none) else bif Nat.beq t 129 then some ti129 else (bif Nat.blt t 131 then none else bif Nat.beq t 131 then some ti131 else none)) else bif Nat.beq t 132 then some ti132 else (bif Nat.blt t 135 then (bif Nat.blt t 134 then (bif Nat.blt t 133 then none else bif Nat.beq t 133 then some ti133 else none) else bif Nat.beq t 134 then some ti134 else none) else bif Nat.beq t 135 then some ti135 else (bif Nat.blt t 136 then none else bif Nat.beq t 136 then some ti136 else none))) else bif Nat.beq t 137 then some ti137 else (bif Nat.blt t 143 then (bif Nat.blt t 140 then (bif Nat.blt t 139 then (bif Nat.blt t 138 then none else bif Nat.beq t 138 then some ti138 else none) else bif Nat.beq t 139 then some ti139 else none) else bif Nat.beq t 140 then some ti140 else (bif Nat.blt t 141 then none else bif Nat.beq t 141 then some ti141 else none)) else bif Nat.beq t 143 then some ti143 else (bif Nat.blt t 145 then (bif Nat.blt t 144 then none else bif Nat.beq t 144 then some ti144 else none) else bif Nat.beq t 145 then some ti145 else (bif Nat.blt t 146 then none else bif Nat.beq t 146 then some ti146 else none)))) else bif Nat.beq t 147 then some ti147 else (bif Nat.blt t 157 then (bif Nat.blt t 152 then (bif Nat.blt t 150 then (bif Nat.blt t 149 then (bif Nat.blt t 148 then none else bif Nat.beq t 148 then some ti148 else none) else bif Nat.beq t 149 then some ti149 else none) else bif Nat.beq t 150 then some ti150 else (bif Nat.blt t 151 then none else bif Nat.beq t 151 then some ti151 else none)) else bif Nat.beq t 152 then some ti152 else (bif Nat.blt t 155 then (bif Nat.blt t 154 then (bif Nat.blt t 153 then none else bif Nat.beq t 153 then some ti153 else none) else bif Nat.beq t 154 then some ti154 else none) else bif Nat.beq t 155 then some ti155 else (bif Nat.blt t 156 then none else bif Nat.beq t 156 then some ti156 else none))) else bif Nat.beq t 157 then some ti157 else (bif Nat.blt t 162 then (bif Nat.blt t 160 then (bif Nat.blt t 159 then (bif Nat.blt t 158 then none else bif Nat.beq t 158 then some ti158 else none) else bif Nat.beq t 159 then some ti159 else none) else bif Nat.beq t 160 then some ti160 else (bif Nat.blt t 161 then none else bif Nat.beq t 161 then some ti161 else none)) else bif Nat.beq t 162 then some ti162 else (bif Nat.blt t 164 then (bif Nat.blt t 163 then none else bif Nat.beq t 163 then some ti163 else none) else bif Nat.beq t 164 then some ti164 else (bif Nat.blt t 165 then none else bif Nat.beq t 165 then some ti165 else none)))))))
noncomputable def gT (g : Nat) : Option AVal := bif Nat.beq g 0 then some (.cptr (Lib.pow10Tab.map fun z => .int .u64 z)) else bif Nat.beq g 1 then some (.cptr [.any]) else bif Nat.beq g 2 then some (.any) else bif Nat.beq g 3 then some (.any) else none
theorem cond_some {α : Type} {b : Bool} {x y : Option α} {e : α} (h : (bif b then x else y) = some e) : (b = true ∧ x = some e) ∨ (b = false ∧ y = some e) := by cases b <;> simp_all
noncomputable def cx : Cx := ⟨Tryd.prog, tT, gT, fun _ => false, fun _ => none⟩
theorem tT_small : (List.range 166).map tT = (List.range 166).map (tyB Tryd.prog 166) := by kernel_rfl
theorem nblt (t k : Nat) (h : k ≤ t) : Nat.blt t k = false := by cases hb : Nat.blt t k; rfl; exact absurd (blt_iff.1 hb) (by omega)
theorem nbne (t k : Nat) (h : t ≠ k) : Nat.beq t k = false := by cases hb : Nat.beq t k; rfl; exact absurd (nbeq hb) h
theorem tT_big (t : Nat) (h : 166 ≤ t) : tT t = none := by
  unfold tT
  rw [show Nat.blt t 84 = false from nblt t 84 (by omega), cond_false, show Nat.beq t 84 = false from nbne t 84 (by omega), cond_false, show Nat.blt t 125 = false from nblt t 125 (by omega), cond_false, show Nat.beq t 125 = false from nbne t 125 (by omega), cond_false, show Nat.blt t 147 = false from nblt t 147 (by omega), cond_false, show Nat.beq t 147 = false from nbne t 147 (by omega), cond_false, show Nat.blt t 157 = false from nblt t 157 (by omega), cond_false, show Nat.beq t 157 = false from nbne t 157 (by omega), cond_false, show Nat.blt t 162 = false from nblt t 162 (by omega), cond_false, show Nat.beq t 162 = false from nbne t 162 (by omega), cond_false, show Nat.blt t 164 = false from nblt t 164 (by omega), cond_false, show Nat.beq t 164 = false from nbne t 164 (by omega), cond_false, show Nat.blt t 165 = false from nblt t 165 (by omega), cond_false, show Nat.beq t 165 = false from nbne t 165 (by omega), cond_false]
theorem tT_eq (t : TypeId) (i : TI) (h : tT t = some i) : tyB Tryd.prog 166 t = some i := by
  rcases Nat.lt_or_ge t 166 with hl | hl
  · have := congrArg (fun l => l[t]?) tT_small
    simp only [List.getElem?_map, List.getElem?_range hl, Option.map_some, Option.some.injEq] at this
    rw [← this]; exact h
  · exact absurd h (by have e := tT_big t hl; rw [e]; exact fun h => by cases h)
theorem cxT : TOk cx.P cx.T := by
  have h : TOk Tryd.prog (tyB Tryd.prog 166) := tyB_ok (by kernel_rfl)
  have e : tyB Tryd.prog 166 = tT := by
    funext t
    rcases Nat.lt_or_ge t 166 with hl | hl
    · have := congrArg (fun l => l[t]?) tT_small
      simp only [List.getElem?_map, List.getElem?_range hl, Option.map_some, Option.some.injEq] at this
      exact this.symm
    · rw [tT_big t hl]
      unfold tyB basicOk
      rw [decide_eq_false (Nat.not_lt.2 hl : ¬ (t : Nat) < 166)]
      rfl
  rw [e] at h
  exact h
theorem cxOk : cx.Ok := ⟨cxT, fun t i h => cells_of t i (tT_eq t i h), by kernel_rfl⟩
theorem cxG : GClosed cx := fun g v h => by
  have h : gT g = some v := h
  unfold gT at h
  rcases cond_some h with ⟨_, h⟩ | ⟨_, h⟩
  · injection h with h
    subst h
    first | exact .any | exact .cptr _ (fun c hc => by obtain ⟨z, _, rfl⟩ := List.mem_map.1 hc; exact .int _ _) | exact .cptr _ (fun c hc => by obtain rfl := List.mem_singleton.1 hc; exact .any)
  rcases cond_some h with ⟨_, h⟩ | ⟨_, h⟩
  · injection h with h
    subst h
    first | exact .any | exact .cptr _ (fun c hc => by obtain ⟨z, _, rfl⟩ := List.mem_map.1 hc; exact .int _ _) | exact .cptr _ (fun c hc => by obtain rfl := List.mem_singleton.1 hc; exact .any)
  rcases cond_some h with ⟨_, h⟩ | ⟨_, h⟩
  · injection h with h
    subst h
    first | exact .any | exact .cptr _ (fun c hc => by obtain ⟨z, _, rfl⟩ := List.mem_map.1 hc; exact .int _ _) | exact .cptr _ (fun c hc => by obtain rfl := List.mem_singleton.1 hc; exact .any)
  rcases cond_some h with ⟨_, h⟩ | ⟨_, h⟩
  · injection h with h
    subst h
    first | exact .any | exact .cptr _ (fun c hc => by obtain ⟨z, _, rfl⟩ := List.mem_map.1 hc; exact .int _ _) | exact .cptr _ (fun c hc => by obtain rfl := List.mem_singleton.1 hc; exact .any)
  cases h
/-- A function of the program's, as the reckoning has it. -/
def mkFE (fn : Func) (q : Nat → Option UL) (pl : Bool) : FE := ⟨LB fn, fn.ntmps, fn.results.toList, q, pl⟩
def FEOk (f : FuncId) (e : FE) : Prop := FnOk cx f e.body e.N e.rs ∧ BodyOk cx f pF e.q
theorem feOk {f : FuncId} {fn : Func} {q : Nat → Option UL} {pl : Bool} (h : cx.P.funcs[f]? = some fn) (h1 : (fn.body.isSome && !(fn.name == "runtime.NumGoroutine")) = true) (h2 : bodyB (cx.wp pF q) fn = true) : FEOk f (mkFE fn q pl) :=
  ⟨fnOk_of h h1, bodyOk_of h h2⟩
inductive Tr
  | z
  | n (l : Tr) (k : Nat) (v : FE) (r : Tr)
def Tr.get : Tr → Nat → Option FE
  | .z, _ => none
  | .n l k v r, f => bif Nat.blt f k then l.get f else bif Nat.beq f k then some v else r.get f
def Tr.All : Tr → Prop
  | .z => True
  | .n l k v r => l.All ∧ FEOk k v ∧ r.All
theorem Tr.ok : ∀ {t : Tr} {f : Nat} {e : FE}, t.All → t.get f = some e → FEOk f e
  | .z, _, _, _, h => by cases h
  | .n l k v r, f, e, a, h => by
    rcases cond_some (h : (bif Nat.blt f k then l.get f else bif Nat.beq f k then some v else r.get f) = some e) with ⟨_, h1⟩ | ⟨_, h1⟩
    · exact Tr.ok a.1 h1
    · rcases cond_some h1 with ⟨d, h2⟩ | ⟨_, h2⟩
      · have hk := nbeq d
        have hv := Option.some.inj h2
        rw [hk, ← hv]
        exact a.2.1
      · exact Tr.ok a.2.2 h2
def q0 (_ : Nat) : Option UL := none
noncomputable def fe3 : FE := mkFE Tryd.f3 (q0) true
theorem fo3 : FEOk 3 fe3 := feOk Tryd.func3 (by kernel_rfl) (by kernel_rfl)
noncomputable def fe4 : FE := mkFE Tryd.f4 (fun i => bif Nat.beq i 3 then some [(some 28, some 27), (some 29, some 27)] else none) true
theorem fo4 : FEOk 4 fe4 := feOk Tryd.func4 (by kernel_rfl) (by kernel_rfl)
noncomputable def fe5 : FE := mkFE Tryd.f5 (fun i => bif Nat.beq i 3 then some [(some 19, some 18)] else none) true
theorem fo5 : FEOk 5 fe5 := feOk Tryd.func5 (by kernel_rfl) (by kernel_rfl)
noncomputable def fe6 : FE := mkFE Tryd.f6 (q0) true
theorem fo6 : FEOk 6 fe6 := feOk Tryd.func6 (by kernel_rfl) (by kernel_rfl)
noncomputable def fe7 : FE := mkFE Tryd.f7 (q0) true
theorem fo7 : FEOk 7 fe7 := feOk Tryd.func7 (by kernel_rfl) (by kernel_rfl)
noncomputable def fe8 : FE := mkFE Tryd.f8 (q0) true
theorem fo8 : FEOk 8 fe8 := feOk Tryd.func8 (by kernel_rfl) (by kernel_rfl)
noncomputable def fe9 : FE := mkFE Tryd.f9 (q0) true
theorem fo9 : FEOk 9 fe9 := feOk Tryd.func9 (by kernel_rfl) (by kernel_rfl)
noncomputable def fe10 : FE := mkFE Tryd.f10 (q0) true
theorem fo10 : FEOk 10 fe10 := feOk Tryd.func10 (by kernel_rfl) (by kernel_rfl)
noncomputable def fe11 : FE := mkFE Tryd.f11 (fun i => bif Nat.beq i 5 then some [(some 19, some 6), (some 23, some 6), (some 27, some 6), (some 31, some 6)] else none) true
theorem fo11 : FEOk 11 fe11 := feOk Tryd.func11 (by kernel_rfl) (by kernel_rfl)
noncomputable def fe12 : FE := mkFE Tryd.f12 (q0) true
theorem fo12 : FEOk 12 fe12 := feOk Tryd.func12 (by kernel_rfl) (by kernel_rfl)
noncomputable def fe13 : FE := mkFE Tryd.f13 (q0) true
theorem fo13 : FEOk 13 fe13 := feOk Tryd.func13 (by kernel_rfl) (by kernel_rfl)
noncomputable def fe14 : FE := mkFE Tryd.f14 (q0) true
theorem fo14 : FEOk 14 fe14 := feOk Tryd.func14 (by kernel_rfl) (by kernel_rfl)
noncomputable def fe15 : FE := mkFE Tryd.f15 (fun i => bif Nat.beq i 5 then some [(some 28, some 26)] else bif Nat.beq i 7 then some [(some 33, some 45)] else bif Nat.beq i 19 then some [(some 88, none)] else bif Nat.beq i 20 then some [(some 92, none)] else none) true
theorem fo15 : FEOk 15 fe15 := feOk Tryd.func15 (by kernel_rfl) (by kernel_rfl)
noncomputable def fe16 : FE := mkFE Tryd.f16 (fun i => bif Nat.beq i 33 then some [(some 150, none)] else bif Nat.beq i 35 then some [(some 156, none)] else none) true
theorem fo16 : FEOk 16 fe16 := feOk Tryd.func16 (by kernel_rfl) (by kernel_rfl)
noncomputable def fe17 : FE := mkFE Tryd.f17 (q0) true
theorem fo17 : FEOk 17 fe17 := feOk Tryd.func17 (by kernel_rfl) (by kernel_rfl)
noncomputable def fe18 : FE := mkFE Tryd.f18 (q0) true
theorem fo18 : FEOk 18 fe18 := feOk Tryd.func18 (by kernel_rfl) (by kernel_rfl)
noncomputable def fe19 : FE := mkFE Tryd.f19 (q0) true
theorem fo19 : FEOk 19 fe19 := feOk Tryd.func19 (by kernel_rfl) (by kernel_rfl)
noncomputable def fe20 : FE := mkFE Tryd.f20 (fun i => bif Nat.beq i 1 then some [(some 7, some 5), (some 7, some 4), (some 8, some 4)] else none) true
theorem fo20 : FEOk 20 fe20 := feOk Tryd.func20 (by kernel_rfl) (by kernel_rfl)
noncomputable def fe21 : FE := mkFE Tryd.f21 (fun i => bif Nat.beq i 1 then some [(some 3, some 4), (some 6, some 4)] else none) true
theorem fo21 : FEOk 21 fe21 := feOk Tryd.func21 (by kernel_rfl) (by kernel_rfl)
noncomputable def fe22 : FE := mkFE Tryd.f22 (q0) true
theorem fo22 : FEOk 22 fe22 := feOk Tryd.func22 (by kernel_rfl) (by kernel_rfl)
noncomputable def fe23 : FE := mkFE Tryd.f23 (q0) true
theorem fo23 : FEOk 23 fe23 := feOk Tryd.func23 (by kernel_rfl) (by kernel_rfl)
noncomputable def fe24 : FE := mkFE Tryd.f24 (q0) true
theorem fo24 : FEOk 24 fe24 := feOk Tryd.func24 (by kernel_rfl) (by kernel_rfl)
noncomputable def fe25 : FE := mkFE Tryd.f25 (q0) true
theorem fo25 : FEOk 25 fe25 := feOk Tryd.func25 (by kernel_rfl) (by kernel_rfl)
noncomputable def fe26 : FE := mkFE Tryd.f26 (q0) true
theorem fo26 : FEOk 26 fe26 := feOk Tryd.func26 (by kernel_rfl) (by kernel_rfl)
noncomputable def fe27 : FE := mkFE Tryd.f27 (q0) false
theorem fo27 : FEOk 27 fe27 := feOk Tryd.func27 (by kernel_rfl) (by kernel_rfl)
noncomputable def fe28 : FE := mkFE Tryd.f28 (q0) true
theorem fo28 : FEOk 28 fe28 := feOk Tryd.func28 (by kernel_rfl) (by kernel_rfl)
noncomputable def fe29 : FE := mkFE Tryd.f29 (q0) false
theorem fo29 : FEOk 29 fe29 := feOk Tryd.func29 (by kernel_rfl) (by kernel_rfl)
noncomputable def fe30 : FE := mkFE Tryd.f30 (q0) true
theorem fo30 : FEOk 30 fe30 := feOk Tryd.func30 (by kernel_rfl) (by kernel_rfl)
noncomputable def fe31 : FE := mkFE Tryd.f31 (fun i => bif Nat.beq i 19 then some [(some 68, some 71), (some 68, some 75)] else none) true
theorem fo31 : FEOk 31 fe31 := feOk Tryd.func31 (by kernel_rfl) (by kernel_rfl)
noncomputable def fe32 : FE := mkFE Tryd.f32 (q0) false
theorem fo32 : FEOk 32 fe32 := feOk Tryd.func32 (by kernel_rfl) (by kernel_rfl)
noncomputable def fe33 : FE := mkFE Tryd.f33 (q0) false
theorem fo33 : FEOk 33 fe33 := feOk Tryd.func33 (by kernel_rfl) (by kernel_rfl)
noncomputable def fe34 : FE := mkFE Tryd.f34 (q0) true
theorem fo34 : FEOk 34 fe34 := feOk Tryd.func34 (by kernel_rfl) (by kernel_rfl)
noncomputable def fe35 : FE := mkFE Tryd.f35 (q0) true
theorem fo35 : FEOk 35 fe35 := feOk Tryd.func35 (by kernel_rfl) (by kernel_rfl)
noncomputable def fe36 : FE := mkFE Tryd.f36 (q0) false
theorem fo36 : FEOk 36 fe36 := feOk Tryd.func36 (by kernel_rfl) (by kernel_rfl)
noncomputable def fe37 : FE := mkFE Tryd.f37 (q0) true
theorem fo37 : FEOk 37 fe37 := feOk Tryd.func37 (by kernel_rfl) (by kernel_rfl)
noncomputable def fe38 : FE := mkFE Tryd.f38 (q0) true
theorem fo38 : FEOk 38 fe38 := feOk Tryd.func38 (by kernel_rfl) (by kernel_rfl)
noncomputable def fe39 : FE := mkFE Tryd.f39 (q0) true
theorem fo39 : FEOk 39 fe39 := feOk Tryd.func39 (by kernel_rfl) (by kernel_rfl)
noncomputable def fe40 : FE := mkFE Tryd.f40 (q0) true
theorem fo40 : FEOk 40 fe40 := feOk Tryd.func40 (by kernel_rfl) (by kernel_rfl)
noncomputable def fe41 : FE := mkFE Tryd.f41 (q0) true
theorem fo41 : FEOk 41 fe41 := feOk Tryd.func41 (by kernel_rfl) (by kernel_rfl)
noncomputable def fe42 : FE := mkFE Tryd.f42 (q0) true
theorem fo42 : FEOk 42 fe42 := feOk Tryd.func42 (by kernel_rfl) (by kernel_rfl)
noncomputable def fe43 : FE := mkFE Tryd.f43 (q0) false
theorem fo43 : FEOk 43 fe43 := feOk Tryd.func43 (by kernel_rfl) (by kernel_rfl)
noncomputable def fe44 : FE := mkFE Tryd.f44 (fun i => bif Nat.beq i 1 then some [(some 11, some 7)] else none) true
theorem fo44 : FEOk 44 fe44 := feOk Tryd.func44 (by kernel_rfl) (by kernel_rfl)
noncomputable def fe45 : FE := mkFE Tryd.f45 (q0) false
theorem fo45 : FEOk 45 fe45 := feOk Tryd.func45 (by kernel_rfl) (by kernel_rfl)
noncomputable def fe46 : FE := mkFE Tryd.f46 (q0) true
theorem fo46 : FEOk 46 fe46 := feOk Tryd.func46 (by kernel_rfl) (by kernel_rfl)
noncomputable def fe47 : FE := mkFE Tryd.f47 (q0) true
theorem fo47 : FEOk 47 fe47 := feOk Tryd.func47 (by kernel_rfl) (by kernel_rfl)
noncomputable def fe48 : FE := mkFE Tryd.f48 (q0) true
theorem fo48 : FEOk 48 fe48 := feOk Tryd.func48 (by kernel_rfl) (by kernel_rfl)
noncomputable def fe49 : FE := mkFE Tryd.f49 (q0) true
theorem fo49 : FEOk 49 fe49 := feOk Tryd.func49 (by kernel_rfl) (by kernel_rfl)
noncomputable def fe50 : FE := mkFE Tryd.f50 (q0) true
theorem fo50 : FEOk 50 fe50 := feOk Tryd.func50 (by kernel_rfl) (by kernel_rfl)
noncomputable def fe51 : FE := mkFE Tryd.f51 (q0) true
theorem fo51 : FEOk 51 fe51 := feOk Tryd.func51 (by kernel_rfl) (by kernel_rfl)
noncomputable def fe52 : FE := mkFE Tryd.f52 (q0) true
theorem fo52 : FEOk 52 fe52 := feOk Tryd.func52 (by kernel_rfl) (by kernel_rfl)
noncomputable def fe53 : FE := mkFE Tryd.f53 (q0) true
theorem fo53 : FEOk 53 fe53 := feOk Tryd.func53 (by kernel_rfl) (by kernel_rfl)
noncomputable def fe54 : FE := mkFE Tryd.f54 (q0) true
theorem fo54 : FEOk 54 fe54 := feOk Tryd.func54 (by kernel_rfl) (by kernel_rfl)
noncomputable def fe55 : FE := mkFE Tryd.f55 (q0) true
theorem fo55 : FEOk 55 fe55 := feOk Tryd.func55 (by kernel_rfl) (by kernel_rfl)
noncomputable def fe56 : FE := mkFE Tryd.f56 (q0) true
theorem fo56 : FEOk 56 fe56 := feOk Tryd.func56 (by kernel_rfl) (by kernel_rfl)
noncomputable def fe57 : FE := mkFE Tryd.f57 (q0) true
theorem fo57 : FEOk 57 fe57 := feOk Tryd.func57 (by kernel_rfl) (by kernel_rfl)
noncomputable def fe58 : FE := mkFE Tryd.f58 (q0) true
theorem fo58 : FEOk 58 fe58 := feOk Tryd.func58 (by kernel_rfl) (by kernel_rfl)
noncomputable def fe59 : FE := mkFE Tryd.f59 (q0) true
theorem fo59 : FEOk 59 fe59 := feOk Tryd.func59 (by kernel_rfl) (by kernel_rfl)
noncomputable def fe60 : FE := mkFE Tryd.f60 (q0) true
theorem fo60 : FEOk 60 fe60 := feOk Tryd.func60 (by kernel_rfl) (by kernel_rfl)
noncomputable def fe61 : FE := mkFE Tryd.f61 (q0) true
theorem fo61 : FEOk 61 fe61 := feOk Tryd.func61 (by kernel_rfl) (by kernel_rfl)
noncomputable def fe62 : FE := mkFE Tryd.f62 (q0) false
theorem fo62 : FEOk 62 fe62 := feOk Tryd.func62 (by kernel_rfl) (by kernel_rfl)
noncomputable def fe63 : FE := mkFE Tryd.f63 (q0) true
theorem fo63 : FEOk 63 fe63 := feOk Tryd.func63 (by kernel_rfl) (by kernel_rfl)
noncomputable def fe64 : FE := mkFE Tryd.f64 (q0) false
theorem fo64 : FEOk 64 fe64 := feOk Tryd.func64 (by kernel_rfl) (by kernel_rfl)
noncomputable def fe65 : FE := mkFE Tryd.f65 (q0) true
theorem fo65 : FEOk 65 fe65 := feOk Tryd.func65 (by kernel_rfl) (by kernel_rfl)
noncomputable def fe66 : FE := mkFE Tryd.f66 (q0) true
theorem fo66 : FEOk 66 fe66 := feOk Tryd.func66 (by kernel_rfl) (by kernel_rfl)
noncomputable def fe67 : FE := mkFE Tryd.f67 (q0) true
theorem fo67 : FEOk 67 fe67 := feOk Tryd.func67 (by kernel_rfl) (by kernel_rfl)
noncomputable def fe68 : FE := mkFE Tryd.f68 (q0) true
theorem fo68 : FEOk 68 fe68 := feOk Tryd.func68 (by kernel_rfl) (by kernel_rfl)
noncomputable def fe69 : FE := mkFE Tryd.f69 (q0) true
theorem fo69 : FEOk 69 fe69 := feOk Tryd.func69 (by kernel_rfl) (by kernel_rfl)
noncomputable def fe70 : FE := mkFE Tryd.f70 (q0) false
theorem fo70 : FEOk 70 fe70 := feOk Tryd.func70 (by kernel_rfl) (by kernel_rfl)
noncomputable def fe72 : FE := mkFE Tryd.f72 (q0) false
theorem fo72 : FEOk 72 fe72 := feOk Tryd.func72 (by kernel_rfl) (by kernel_rfl)
noncomputable def fe73 : FE := mkFE Tryd.f73 (q0) true
theorem fo73 : FEOk 73 fe73 := feOk Tryd.func73 (by kernel_rfl) (by kernel_rfl)
noncomputable def fe74 : FE := mkFE Tryd.f74 (q0) true
theorem fo74 : FEOk 74 fe74 := feOk Tryd.func74 (by kernel_rfl) (by kernel_rfl)
noncomputable def fe75 : FE := mkFE Tryd.f75 (q0) false
theorem fo75 : FEOk 75 fe75 := feOk Tryd.func75 (by kernel_rfl) (by kernel_rfl)
noncomputable def fe76 : FE := mkFE Tryd.f76 (q0) false
theorem fo76 : FEOk 76 fe76 := feOk Tryd.func76 (by kernel_rfl) (by kernel_rfl)
noncomputable def fe77 : FE := mkFE Tryd.f77 (q0) true
theorem fo77 : FEOk 77 fe77 := feOk Tryd.func77 (by kernel_rfl) (by kernel_rfl)
noncomputable def fe78 : FE := mkFE Tryd.f78 (q0) true
theorem fo78 : FEOk 78 fe78 := feOk Tryd.func78 (by kernel_rfl) (by kernel_rfl)
noncomputable def fe79 : FE := mkFE Tryd.f79 (q0) true
theorem fo79 : FEOk 79 fe79 := feOk Tryd.func79 (by kernel_rfl) (by kernel_rfl)
noncomputable def fe80 : FE := mkFE Tryd.f80 (q0) true
theorem fo80 : FEOk 80 fe80 := feOk Tryd.func80 (by kernel_rfl) (by kernel_rfl)
noncomputable def fe81 : FE := mkFE Tryd.f81 (q0) true
theorem fo81 : FEOk 81 fe81 := feOk Tryd.func81 (by kernel_rfl) (by kernel_rfl)
noncomputable def fe82 : FE := mkFE Tryd.f82 (q0) true
theorem fo82 : FEOk 82 fe82 := feOk Tryd.func82 (by kernel_rfl) (by kernel_rfl)
noncomputable def fe83 : FE := mkFE Tryd.f83 (q0) true
theorem fo83 : FEOk 83 fe83 := feOk Tryd.func83 (by kernel_rfl) (by kernel_rfl)
noncomputable def fe84 : FE := mkFE Tryd.f84 (q0) true
theorem fo84 : FEOk 84 fe84 := feOk Tryd.func84 (by kernel_rfl) (by kernel_rfl)
noncomputable def fe85 : FE := mkFE Tryd.f85 (q0) true
theorem fo85 : FEOk 85 fe85 := feOk Tryd.func85 (by kernel_rfl) (by kernel_rfl)
noncomputable def fe87 : FE := mkFE Tryd.f87 (q0) false
theorem fo87 : FEOk 87 fe87 := feOk Tryd.func87 (by kernel_rfl) (by kernel_rfl)
noncomputable def fe88 : FE := mkFE Tryd.f88 (fun i => bif Nat.beq i 1 then some [(some 8, some 7)] else none) false
theorem fo88 : FEOk 88 fe88 := feOk Tryd.func88 (by kernel_rfl) (by kernel_rfl)
noncomputable def fe89 : FE := mkFE Tryd.f89 (fun i => bif Nat.beq i 1 then some [(some 8, some 7)] else none) false
theorem fo89 : FEOk 89 fe89 := feOk Tryd.func89 (by kernel_rfl) (by kernel_rfl)
noncomputable def fe90 : FE := mkFE Tryd.f90 (q0) false
theorem fo90 : FEOk 90 fe90 := feOk Tryd.func90 (by kernel_rfl) (by kernel_rfl)
noncomputable def fe91 : FE := mkFE Tryd.f91 (q0) false
theorem fo91 : FEOk 91 fe91 := feOk Tryd.func91 (by kernel_rfl) (by kernel_rfl)
noncomputable def fe92 : FE := mkFE Tryd.f92 (q0) true
theorem fo92 : FEOk 92 fe92 := feOk Tryd.func92 (by kernel_rfl) (by kernel_rfl)
noncomputable def fe94 : FE := mkFE Tryd.f94 (q0) true
theorem fo94 : FEOk 94 fe94 := feOk Tryd.func94 (by kernel_rfl) (by kernel_rfl)
noncomputable def fe95 : FE := mkFE Tryd.f95 (q0) true
theorem fo95 : FEOk 95 fe95 := feOk Tryd.func95 (by kernel_rfl) (by kernel_rfl)
noncomputable def fe96 : FE := mkFE Tryd.f96 (q0) true
theorem fo96 : FEOk 96 fe96 := feOk Tryd.func96 (by kernel_rfl) (by kernel_rfl)
noncomputable def fe97 : FE := mkFE Tryd.f97 (q0) true
theorem fo97 : FEOk 97 fe97 := feOk Tryd.func97 (by kernel_rfl) (by kernel_rfl)
noncomputable def fe98 : FE := mkFE Tryd.f98 (q0) true
theorem fo98 : FEOk 98 fe98 := feOk Tryd.func98 (by kernel_rfl) (by kernel_rfl)
noncomputable def fe99 : FE := mkFE Tryd.f99 (q0) true
theorem fo99 : FEOk 99 fe99 := feOk Tryd.func99 (by kernel_rfl) (by kernel_rfl)
noncomputable def fe100 : FE := mkFE Tryd.f100 (q0) true
theorem fo100 : FEOk 100 fe100 := feOk Tryd.func100 (by kernel_rfl) (by kernel_rfl)
noncomputable def fe101 : FE := mkFE Tryd.f101 (q0) true
theorem fo101 : FEOk 101 fe101 := feOk Tryd.func101 (by kernel_rfl) (by kernel_rfl)
noncomputable def fe102 : FE := mkFE Tryd.f102 (q0) false
theorem fo102 : FEOk 102 fe102 := feOk Tryd.func102 (by kernel_rfl) (by kernel_rfl)
noncomputable def fe104 : FE := mkFE Tryd.f104 (q0) true
theorem fo104 : FEOk 104 fe104 := feOk Tryd.func104 (by kernel_rfl) (by kernel_rfl)
noncomputable def tabT : Tr := (.n (.n (.n (.n (.n (.n (.n .z 3 fe3 .z) 4 fe4 (.n .z 5 fe5 .z)) 6 fe6 (.n (.n .z 7 fe7 .z) 8 fe8 .z)) 9 fe9 (.n (.n (.n .z 10 fe10 .z) 11 fe11 .z) 12 fe12 (.n (.n .z 13 fe13 .z) 14 fe14 .z))) 15 fe15 (.n (.n (.n (.n .z 16 fe16 .z) 17 fe17 .z) 18 fe18 (.n (.n .z 19 fe19 .z) 20 fe20 .z)) 21 fe21 (.n (.n (.n .z 22 fe22 .z) 23 fe23 .z) 24 fe24 (.n (.n .z 25 fe25 .z) 26 fe26 .z)))) 27 fe27 (.n (.n (.n (.n (.n .z 28 fe28 .z) 29 fe29 (.n .z 30 fe30 .z)) 31 fe31 (.n (.n .z 32 fe32 .z) 33 fe33 .z)) 34 fe34 (.n (.n (.n .z 35 fe35 .z) 36 fe36 .z) 37 fe37 (.n (.n .z 38 fe38 .z) 39 fe39 .z))) 40 fe40 (.n (.n (.n (.n .z 41 fe41 .z) 42 fe42 .z) 43 fe43 (.n (.n .z 44 fe44 .z) 45 fe45 .z)) 46 fe46 (.n (.n (.n .z 47 fe47 .z) 48 fe48 .z) 49 fe49 (.n (.n .z 50 fe50 .z) 51 fe51 .z))))) 52 fe52 (.n (.n (.n (.n (.n (.n .z 53 fe53 .z) 54 fe54 (.n .z 55 fe55 .z)) 56 fe56 (.n (.n .z 57 fe57 .z) 58 fe58 .z)) 59 fe59 (.n (.n (.n .z 60 fe60 .z) 61 fe61 .z) 62 fe62 (.n (.n .z 63 fe63 .z) 64 fe64 .z))) 65 fe65 (.n (.n (.n (.n .z 66 fe66 .z) 67 fe67 .z) 68 fe68 (.n (.n .z 69 fe69 .z) 70 fe70 .z)) 72 fe72 (.n (.n (.n .z 73 fe73 .z) 74 fe74 .z) 75 fe75 (.n (.n .z 76 fe76 .z) 77 fe77 .z)))) 78 fe78 (.n (.n (.n (.n (.n .z 79 fe79 .z) 80 fe80 .z) 81 fe81 (.n (.n .z 82 fe82 .z) 83 fe83 .z)) 84 fe84 (.n (.n (.n .z 85 fe85 .z) 87 fe87 .z) 88 fe88 (.n (.n .z 89 fe89 .z) 90 fe90 .z))) 91 fe91 (.n (.n (.n (.n .z 92 fe92 .z) 94 fe94 .z) 95 fe95 (.n (.n .z 96 fe96 .z) 97 fe97 .z)) 98 fe98 (.n (.n (.n .z 99 fe99 .z) 100 fe100 .z) 101 fe101 (.n (.n .z 102 fe102 .z) 104 fe104 .z))))))
noncomputable def tab (f : FuncId) : Option FE := tabT.get f
theorem tabA : tabT.All := ⟨⟨⟨⟨⟨⟨⟨⟨⟩, fo3, ⟨⟩⟩, fo4, ⟨⟨⟩, fo5, ⟨⟩⟩⟩, fo6, ⟨⟨⟨⟩, fo7, ⟨⟩⟩, fo8, ⟨⟩⟩⟩, fo9, ⟨⟨⟨⟨⟩, fo10, ⟨⟩⟩, fo11, ⟨⟩⟩, fo12, ⟨⟨⟨⟩, fo13, ⟨⟩⟩, fo14, ⟨⟩⟩⟩⟩, fo15, ⟨⟨⟨⟨⟨⟩, fo16, ⟨⟩⟩, fo17, ⟨⟩⟩, fo18, ⟨⟨⟨⟩, fo19, ⟨⟩⟩, fo20, ⟨⟩⟩⟩, fo21, ⟨⟨⟨⟨⟩, fo22, ⟨⟩⟩, fo23, ⟨⟩⟩, fo24, ⟨⟨⟨⟩, fo25, ⟨⟩⟩, fo26, ⟨⟩⟩⟩⟩⟩, fo27, ⟨⟨⟨⟨⟨⟨⟩, fo28, ⟨⟩⟩, fo29, ⟨⟨⟩, fo30, ⟨⟩⟩⟩, fo31, ⟨⟨⟨⟩, fo32, ⟨⟩⟩, fo33, ⟨⟩⟩⟩, fo34, ⟨⟨⟨⟨⟩, fo35, ⟨⟩⟩, fo36, ⟨⟩⟩, fo37, ⟨⟨⟨⟩, fo38, ⟨⟩⟩, fo39, ⟨⟩⟩⟩⟩, fo40, ⟨⟨⟨⟨⟨⟩, fo41, ⟨⟩⟩, fo42, ⟨⟩⟩, fo43, ⟨⟨⟨⟩, fo44, ⟨⟩⟩, fo45, ⟨⟩⟩⟩, fo46, ⟨⟨⟨⟨⟩, fo47, ⟨⟩⟩, fo48, ⟨⟩⟩, fo49, ⟨⟨⟨⟩, fo50, ⟨⟩⟩, fo51, ⟨⟩⟩⟩⟩⟩⟩, fo52, ⟨⟨⟨⟨⟨⟨⟨⟩, fo53, ⟨⟩⟩, fo54, ⟨⟨⟩, fo55, ⟨⟩⟩⟩, fo56, ⟨⟨⟨⟩, fo57, ⟨⟩⟩, fo58, ⟨⟩⟩⟩, fo59, ⟨⟨⟨⟨⟩, fo60, ⟨⟩⟩, fo61, ⟨⟩⟩, fo62, ⟨⟨⟨⟩, fo63, ⟨⟩⟩, fo64, ⟨⟩⟩⟩⟩, fo65, ⟨⟨⟨⟨⟨⟩, fo66, ⟨⟩⟩, fo67, ⟨⟩⟩, fo68, ⟨⟨⟨⟩, fo69, ⟨⟩⟩, fo70, ⟨⟩⟩⟩, fo72, ⟨⟨⟨⟨⟩, fo73, ⟨⟩⟩, fo74, ⟨⟩⟩, fo75, ⟨⟨⟨⟩, fo76, ⟨⟩⟩, fo77, ⟨⟩⟩⟩⟩⟩, fo78, ⟨⟨⟨⟨⟨⟨⟩, fo79, ⟨⟩⟩, fo80, ⟨⟩⟩, fo81, ⟨⟨⟨⟩, fo82, ⟨⟩⟩, fo83, ⟨⟩⟩⟩, fo84, ⟨⟨⟨⟨⟩, fo85, ⟨⟩⟩, fo87, ⟨⟩⟩, fo88, ⟨⟨⟨⟩, fo89, ⟨⟩⟩, fo90, ⟨⟩⟩⟩⟩, fo91, ⟨⟨⟨⟨⟨⟩, fo92, ⟨⟩⟩, fo94, ⟨⟩⟩, fo95, ⟨⟨⟨⟩, fo96, ⟨⟩⟩, fo97, ⟨⟩⟩⟩, fo98, ⟨⟨⟨⟨⟩, fo99, ⟨⟩⟩, fo100, ⟨⟩⟩, fo101, ⟨⟨⟨⟩, fo102, ⟨⟩⟩, fo104, ⟨⟩⟩⟩⟩⟩⟩⟩
theorem tab_fn (f : FuncId) (e : FE) (h : tab f = some e) : FnOk cx f e.body e.N e.rs ∧ BodyOk cx f pF e.q := Tr.ok tabA h
noncomputable def extF : FuncId → List AVal → Option AVal := extT 103 86
theorem tabOk : TabOk cx tab extF := ⟨tab_fn, extT_ok ⟨_, Tryd.func103, by kernel_rfl, by kernel_rfl, by kernel_rfl, by kernel_rfl⟩ ⟨_, Tryd.func86, by kernel_rfl, by kernel_rfl, by kernel_rfl, by kernel_rfl⟩, cxG, cxOk⟩
end Go.Am
